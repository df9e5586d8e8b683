/- Plain facts on the words of floats: how two of them stand to each other is how their keys do. No Go in sight; no condition of its own. -/
import Ieee.Arith
namespace Go.Proofs.Ytdgjbpefbkgnpaa.Float
set_option linter.unusedVariables false
set_option linter.unusedSimpArgs false
open Ieee

/-- The magnitude of a rung, in units of the least number. -/
def val (r : Nat) : Nat := if r < 4503599627370496 then r else (4503599627370496 + r % 4503599627370496) * 2 ^ (r / 4503599627370496 - 1)
theorem val_succ (r : Nat) : val r < val (r + 1) := by
  unfold val
  by_cases h : r < 4503599627370496
  · rw [if_pos h]
    by_cases h1 : r + 1 < 4503599627370496
    · rw [if_pos h1]
      omega
    · rw [if_neg h1]
      have : r + 1 = 4503599627370496 := by omega
      rw [this]
      simp
      omega
  · rw [if_neg h, if_neg (by omega)]
    have hq : 0 < r / 4503599627370496 := by omega
    generalize hqe : r / 4503599627370496 = q at hq
    generalize hfe : r % 4503599627370496 = f
    have hf : f < 4503599627370496 := by omega
    have hr : r = 4503599627370496 * q + f := by omega
    obtain ⟨p, rfl⟩ : ∃ p, q = p + 1 := ⟨q - 1, by omega⟩
    have hp : 0 < 2 ^ p := Nat.two_pow_pos _
    by_cases h1 : f + 1 < 4503599627370496
    · have e1 : (r + 1) / 4503599627370496 = p + 1 := by omega
      have e2 : (r + 1) % 4503599627370496 = f + 1 := by omega
      rw [e1, e2]
      simp only [Nat.add_sub_cancel]
      exact Nat.mul_lt_mul_of_pos_right (by omega) hp
    · have e1 : (r + 1) / 4503599627370496 = p + 2 := by omega
      have e2 : (r + 1) % 4503599627370496 = 0 := by omega
      rw [e1, e2, show p + 2 - 1 = p + 1 by omega, Nat.pow_succ]
      simp only [Nat.add_sub_cancel, Nat.add_zero]
      rw [show 4503599627370496 * (2 ^ p * 2) = 9007199254740992 * 2 ^ p by rw [Nat.mul_comm (2 ^ p) 2, ← Nat.mul_assoc]]
      exact Nat.mul_lt_mul_of_pos_right (by omega) hp
theorem val_lt {r s : Nat} (h : r < s) : val r < val s := by
  induction s with
  | zero => omega
  | succ s ih =>
    rcases Nat.lt_succ_iff_lt_or_eq.1 h with h | rfl
    · exact Nat.lt_trans (ih h) (val_succ s)
    · exact val_succ r
theorem val_zero : val 0 = 0 := by decide
def sg (s : Bool) (n : Nat) : Int := if s then -(n : Int) else n
theorem sg_lt (s t : Bool) (r q : Nat) : sg s (val r) < sg t (val q) ↔ sg s r < sg t q := by
  have h0 := val_zero
  have hr : 0 < r → 0 < val r := fun h => by have := val_lt h; omega
  have hq : 0 < q → 0 < val q := fun h => by have := val_lt h; omega
  have h1 : r < q → val r < val q := val_lt
  have h2 : q < r → val q < val r := val_lt
  have h3 : r = q → val r = val q := fun h => by rw [h]
  have h4 : r = 0 → val r = 0 := fun h => by rw [h]; exact h0
  have h5 : q = 0 → val q = 0 := fun h => by rw [h]; exact h0
  unfold sg
  cases s <;> cases t <;> simp only [Bool.false_eq_true, if_false, if_true] <;> omega
theorem sg_eq (s t : Bool) (r q : Nat) : sg s (val r) = sg t (val q) ↔ sg s r = sg t q := by
  have h0 := val_zero
  have hr : 0 < r → 0 < val r := fun h => by have := val_lt h; omega
  have hq : 0 < q → 0 < val q := fun h => by have := val_lt h; omega
  have h1 : r < q → val r < val q := val_lt
  have h2 : q < r → val q < val r := val_lt
  have h3 : r = q → val r = val q := fun h => by rw [h]
  have h4 : r = 0 → val r = 0 := fun h => by rw [h]; exact h0
  have h5 : q = 0 → val q = 0 := fun h => by rw [h]; exact h0
  unfold sg
  cases s <;> cases t <;> simp only [Bool.false_eq_true, if_false, if_true] <;> omega
theorem cmp_congr {a b c d : Int} (h1 : a < b ↔ c < d) (h2 : a = b ↔ c = d) : compare a b = compare c d := by
  show compareOfLessAndEq a b = compareOfLessAndEq c d
  unfold compareOfLessAndEq
  by_cases e1 : a < b
  · rw [if_pos e1, if_pos (h1.1 e1)]
  · rw [if_neg e1, if_neg (fun h => e1 (h1.2 h))]
    by_cases e2 : a = b
    · rw [if_pos e2, if_pos (h2.1 e2)]
    · rw [if_neg e2, if_neg (fun h => e2 (h2.2 h))]
theorem signed_sg (s : Bool) (m up : Nat) : signed s m up = sg s (m * 2 ^ up) := by
  unfold signed sg
  rw [Nat.shiftLeft_eq]
theorem sg_mul (s : Bool) (n c : Nat) : sg s (n * c) = sg s n * (c : Int) := by
  unfold sg
  cases s
  · simp
  · simp [Int.neg_mul]
theorem cmp_scale (a b : Int) (c : Nat) (hc : 0 < c) : compare (a * (c : Int)) (b * (c : Int)) = compare a b := by
  have h : (0 : Int) < (c : Int) := by omega
  exact cmp_congr (Int.mul_lt_mul_right h) ⟨fun e => Int.eq_of_mul_eq_mul_right (by omega) e, fun e => by rw [e]⟩
/-- What a word that stands for a number stands for. -/
theorem read_number {a : Nat} (h : a % 9223372036854775808 < 9218868437227405312) :
    ∃ m p, double.read a = .number (a / 9223372036854775808 % 2 == 1) m p ∧ -1074 ≤ p ∧ val (a % 9223372036854775808) = m * 2 ^ (p + 1074).toNat := by
  have e1 : double.signWeight = 9223372036854775808 := by decide
  have e2 : double.binade = 4503599627370496 := by decide
  have e3 : double.infRung = 9218868437227405312 := by decide
  have e4 : double.leastPlace = -1074 := by decide
  unfold Format.read
  simp only [e1, e2, e3, e4]
  generalize hr : a % 9223372036854775808 = r at h
  by_cases h1 : r < 4503599627370496
  · rw [if_pos h1]
    exact ⟨_, _, rfl, by omega, by unfold val; rw [if_pos h1]; simp⟩
  · rw [if_neg h1, if_pos h]
    refine ⟨_, _, rfl, by omega, ?_⟩
    unfold val
    rw [if_neg h1]
    congr 2
    omega
theorem read_inf {a : Nat} (h : a % 9223372036854775808 = 9218868437227405312) : double.read a = .infinity (a / 9223372036854775808 % 2 == 1) := by
  have e1 : double.signWeight = 9223372036854775808 := by decide
  have e2 : double.binade = 4503599627370496 := by decide
  have e3 : double.infRung = 9218868437227405312 := by decide
  unfold Format.read
  simp only [e1, e2, e3, h]
  rw [if_neg (by omega), if_neg (by omega), if_pos trivial]
theorem read_nan {a : Nat} (h : a % 9223372036854775808 > 9218868437227405312) : double.read a = .nan (a / 9223372036854775808 % 2 == 1) (a % 9223372036854775808 - 9218868437227405312) := by
  have e1 : double.signWeight = 9223372036854775808 := by decide
  have e2 : double.binade = 4503599627370496 := by decide
  have e3 : double.infRung = 9218868437227405312 := by decide
  unfold Format.read
  simp only [e1, e2, e3]
  rw [if_neg (by omega), if_neg (by omega), if_neg (by omega)]
/-- The key of a word: whole numbers in the order of what the words stand for. -/
def keyN (a : Nat) : Int := sg (a / 9223372036854775808 % 2 == 1) (a % 9223372036854775808)
def nanN (a : Nat) : Bool := decide (a % 9223372036854775808 > 9218868437227405312)
theorem order_nan_left {a : Nat} (b : Nat) (h : nanN a = true) : double.order a b = none := by
  unfold Format.order
  rw [read_nan (by simpa [nanN] using h)]
  rfl
theorem order_nan_right (a : Nat) {b : Nat} (h : nanN b = true) : double.order a b = none := by
  unfold Format.order
  rw [read_nan (a := b) (by simpa [nanN] using h)]
  cases double.read a <;> rfl
theorem order_key {a b : Nat} (ha : nanN a = false) (hb : nanN b = false) : double.order a b = some (compare (keyN a) (keyN b)) := by
  have ha' : a % 9223372036854775808 ≤ 9218868437227405312 := by simpa [nanN] using ha
  have hb' : b % 9223372036854775808 ≤ 9218868437227405312 := by simpa [nanN] using hb
  unfold Format.order keyN
  generalize hs : (a / 9223372036854775808 % 2 == 1) = s
  generalize ht : (b / 9223372036854775808 % 2 == 1) = t
  by_cases h1 : a % 9223372036854775808 = 9218868437227405312
  · by_cases h2 : b % 9223372036854775808 = 9218868437227405312
    · rw [read_inf h1, read_inf h2, h1, h2, hs, ht]
      unfold Datum.order
      cases s <;> cases t <;> decide
    · obtain ⟨m, p, e, hp, hv⟩ := read_number (a := b) (by omega)
      rw [read_inf h1, e, h1, hs, ht]
      show some (if s then Ordering.lt else Ordering.gt) = _
      congr 1
      show _ = compareOfLessAndEq _ _
      unfold compareOfLessAndEq sg
      cases s <;> cases t <;> simp only [Bool.false_eq_true, if_false, if_true]
      · rw [if_neg (by omega), if_neg (by omega)]
      · rw [if_neg (by omega), if_neg (by omega)]
      · rw [if_pos (by omega)]
      · rw [if_pos (by omega)]
  · obtain ⟨m, p, e, hp, hv⟩ := read_number (a := a) (by omega)
    by_cases h2 : b % 9223372036854775808 = 9218868437227405312
    · rw [read_inf h2, e, h2, hs, ht]
      show some (if t then Ordering.gt else Ordering.lt) = _
      congr 1
      show _ = compareOfLessAndEq _ _
      unfold compareOfLessAndEq sg
      cases s <;> cases t <;> simp only [Bool.false_eq_true, if_false, if_true]
      · rw [if_pos (by omega)]
      · rw [if_neg (by omega), if_neg (by omega)]
      · rw [if_pos (by omega)]
      · rw [if_neg (by omega), if_neg (by omega)]
    · obtain ⟨n, q, e', hq, hv'⟩ := read_number (a := b) (by omega)
      rw [e, e', hs, ht]
      show some (compare (signed s m (p - min p q).toNat) (signed t n (q - min p q).toNat)) = _
      congr 1
      rw [← cmp_congr (sg_lt s t _ _) (sg_eq s t _ _), hv, hv', signed_sg, signed_sg]
      have hc : 0 < 2 ^ (min p q + 1074).toNat := Nat.two_pow_pos _
      rw [← cmp_scale _ _ (2 ^ (min p q + 1074).toNat) hc, ← sg_mul, ← sg_mul, Nat.mul_assoc, Nat.mul_assoc, ← Nat.pow_add, ← Nat.pow_add]
      rw [show (p - min p q).toNat + (min p q + 1074).toNat = (p + 1074).toNat by omega, show (q - min p q).toNat + (min p q + 1074).toNat = (q + 1074).toNat by omega]
end Go.Proofs.Ytdgjbpefbkgnpaa.Float
