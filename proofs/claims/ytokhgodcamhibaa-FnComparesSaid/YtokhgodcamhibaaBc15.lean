/- Part 15 of the proof: general lemmas, contracts of functions, walks. No condition of its own. -/
import Ieee.Arith
import Derived.Test.YtokhgodcamhibaaProg
import Derived.Deep.RegionWith
import Derived.Deep.RegionHeld3
import Derived.Deep.QuietTactic
import Derived.BigQuiet
import Derived.WalkLawsBesides
import Derived.Laws.FloatArith
import Derived.Laws.StructEq
import Derived.Deep.LoopGhost
import Derived.Below
import Derived.Deep.Draws
import Derived.Deep.AppendLies
import Derived.Maps.AppendAt
import Derived.OwnWalk
import Derived.Laws.BytesArg
import Derived.Laws.MakeOwn
import Derived.Laws.OwnMore
import Derived.Deep.OwnRows
import Derived.Tactics
import Derived.Lib.ConvBytes
import Derived.Laws.Slices
import Derived.WalkKit
import Derived.KernelRfl
import Derived.RowKit3
import Derived.WideLaws
import Derived.Deep.DeepCutAuto
import Derived.Deep.CutBlock
import Derived.Laws.Rows
import Derived.Lib.AppendStr
import Derived.ArgAppend
import Derived.Laws.IdiomCopy
import Derived.OrdersHeld
import Derived.Laws.BitsLemmas
import Derived.RowKit
import Derived.Test.YtokhgodcamhibaaBc14
import Derived.Test.YtokhgodcamhibaaBc1
import Derived.Test.YtokhgodcamhibaaBc13
import Derived.Test.YtokhgodcamhibaaBc2
import Derived.Test.YtokhgodcamhibaaBc3
import Derived.Test.YtokhgodcamhibaaBc4
import Derived.Test.YtokhgodcamhibaaBc5
import Derived.Test.YtokhgodcamhibaaBc6
import Derived.Test.YtokhgodcamhibaaBc7
import Derived.Test.YtokhgodcamhibaaBc8
import Derived.Test.YtokhgodcamhibaaBc9
import Derived.Test.YtokhgodcamhibaaBc10
import Derived.Test.YtokhgodcamhibaaBc11
import Derived.Test.YtokhgodcamhibaaBc12
section
namespace Go.Proofs.Ytokhgodcamhibaa.Fl
open Ieee
set_option linter.unusedVariables false
/-- 'n / 2 ^ d' to the nearest whole number, of two the even one. -/
def rne (n d : Nat) : Nat := n / 2 ^ d + if 2 ^ d < 2 * (n % 2 ^ d) ∨ (2 ^ d = 2 * (n % 2 ^ d) ∧ n / 2 ^ d % 2 = 1) then 1 else 0
theorem cut_rne (neg : Bool) (n d : Nat) : Toward.even.cut neg n d = rne n d := by
  have key : ∀ g : Nat, n / g + (decide (g < 2 * (n % g)) || (g == 2 * (n % g) && n / g % 2 == 1)).toNat = n / g + if g < 2 * (n % g) ∨ (g = 2 * (n % g) ∧ n / g % 2 = 1) then 1 else 0 := by
    intro g
    by_cases h : g < 2 * (n % g) ∨ (g = 2 * (n % g) ∧ n / g % 2 = 1)
    · rw [if_pos h]
      have : (decide (g < 2 * (n % g)) || (g == 2 * (n % g) && n / g % 2 == 1)) = true := by
        rw [Bool.or_eq_true, Bool.and_eq_true, decide_eq_true_eq, beq_iff_eq, beq_iff_eq]; exact h
      rw [this]; rfl
    · rw [if_neg h]
      have : (decide (g < 2 * (n % g)) || (g == 2 * (n % g) && n / g % 2 == 1)) = false := by
        rw [← Bool.not_eq_true, Bool.or_eq_true, Bool.and_eq_true, decide_eq_true_eq, beq_iff_eq, beq_iff_eq]; exact h
      rw [this]; rfl
  unfold Toward.cut rne
  simp only [Nat.one_shiftLeft]
  rw [key]
  by_cases h : d ≤ n.log2 + 2
  · rw [Nat.min_eq_left h]
  · rw [Nat.min_eq_right (by omega)]
    have h1 : n < 2 ^ (n.log2 + 1) := Nat.lt_log2_self
    have h2 : 2 ^ (n.log2 + 2) = 2 * 2 ^ (n.log2 + 1) := by rw [Nat.pow_succ, Nat.mul_comm]
    have h3 : 2 ^ (n.log2 + 2) ≤ 2 ^ d := Nat.pow_le_pow_right (by decide) (by omega)
    have z : ∀ g, 2 * n < g → (n / g + if g < 2 * (n % g) ∨ (g = 2 * (n % g) ∧ n / g % 2 = 1) then 1 else 0) = 0 := by
      intro g hg
      rw [Nat.div_eq_of_lt (by omega), Nat.mod_eq_of_lt (by omega), if_neg (by omega)]
    rw [z _ (by omega), z _ (by omega)]
theorem rne_scale (n j d : Nat) : rne (n * 2 ^ j) (d + j) = rne n d := by
  unfold rne
  have hj : 0 < 2 ^ j := Nat.two_pow_pos _
  have e : 2 ^ (d + j) = 2 ^ d * 2 ^ j := Nat.pow_add ..
  rw [e, Nat.mul_div_mul_right _ _ hj, Nat.mul_mod_mul_right]
  have a : 2 ^ d * 2 ^ j < 2 * (n % 2 ^ d * 2 ^ j) ↔ 2 ^ d < 2 * (n % 2 ^ d) := by
    rw [← Nat.mul_assoc]; exact Nat.mul_lt_mul_right hj
  have b : 2 ^ d * 2 ^ j = 2 * (n % 2 ^ d * 2 ^ j) ↔ 2 ^ d = 2 * (n % 2 ^ d) := by
    rw [← Nat.mul_assoc]; exact Nat.mul_right_cancel_iff hj
  simp only [a, b]
/-- What lies below the half of a unit is told by one bit. -/
theorem rne_sticky (m k t j : Nat) (ht : t < 2 ^ k) : rne (m * 2 ^ k + t) (k + 1 + j) = rne (2 * m + if t = 0 then 0 else 1) (j + 2) := by
  have hk : 0 < 2 ^ k := Nat.two_pow_pos _
  have hJ : 0 < 2 ^ j := Nat.two_pow_pos _
  have e1 : 2 ^ (k + 1 + j) = 2 ^ k * (2 * 2 ^ j) := by rw [Nat.pow_add, Nat.pow_add, Nat.pow_one, Nat.mul_assoc]
  have e2 : 2 ^ (j + 2) = 2 * (2 * 2 ^ j) := by rw [Nat.pow_add]; omega
  obtain ⟨s, hs, hs1⟩ : ∃ s, (if t = 0 then 0 else 1) = s ∧ ((t = 0 ∧ s = 0) ∨ (0 < t ∧ s = 1)) := by
    by_cases h : t = 0
    · exact ⟨0, if_pos h, .inl ⟨h, rfl⟩⟩
    · exact ⟨1, if_neg h, .inr ⟨by omega, rfl⟩⟩
  rw [hs]
  unfold rne
  rw [e1, e2]
  have d1 : (m * 2 ^ k + t) / (2 ^ k * (2 * 2 ^ j)) = m / (2 * 2 ^ j) := by
    rw [← Nat.div_div_eq_div_mul, Nat.mul_comm m, Nat.mul_add_div hk, Nat.div_eq_of_lt ht, Nat.add_zero]
  have d2 : (2 * m + s) / (2 * (2 * 2 ^ j)) = m / (2 * 2 ^ j) := by
    rw [← Nat.div_div_eq_div_mul]
    congr 1
    omega
  have m1 : (m * 2 ^ k + t) % (2 ^ k * (2 * 2 ^ j)) = (m % (2 * 2 ^ j)) * 2 ^ k + t := by
    have h1 := Nat.div_add_mod (m * 2 ^ k + t) (2 ^ k * (2 * 2 ^ j))
    have h2 := Nat.div_add_mod m (2 * 2 ^ j)
    rw [d1] at h1
    generalize m / (2 * 2 ^ j) = q at h1 h2
    generalize m % (2 * 2 ^ j) = r at h2 ⊢
    generalize (m * 2 ^ k + t) % (2 ^ k * (2 * 2 ^ j)) = u at h1 ⊢
    rw [← h2, Nat.add_mul, show 2 * 2 ^ j * q * 2 ^ k = 2 ^ k * (2 * 2 ^ j) * q by rw [Nat.mul_comm _ (2 ^ k), Nat.mul_assoc (2 ^ k)]] at h1
    omega
  have m2 : (2 * m + s) % (2 * (2 * 2 ^ j)) = 2 * (m % (2 * 2 ^ j)) + s := by
    have h1 := Nat.div_add_mod (2 * m + s) (2 * (2 * 2 ^ j))
    have h2 := Nat.div_add_mod m (2 * 2 ^ j)
    rw [d2] at h1
    generalize m / (2 * 2 ^ j) = q at h1 h2
    generalize m % (2 * 2 ^ j) = r at h2 ⊢
    generalize (2 * m + s) % (2 * (2 * 2 ^ j)) = u at h1 ⊢
    rw [← h2, Nat.mul_assoc 2 (2 * 2 ^ j) q] at h1
    omega
  rw [d1, d2, m1, m2]
  have hr : m % (2 * 2 ^ j) < 2 * 2 ^ j := Nat.mod_lt _ (by omega)
  generalize m % (2 * 2 ^ j) = r at hr ⊢
  generalize 2 ^ j = J at *
  have lt : 2 ^ k * (2 * J) < 2 * (r * 2 ^ k + t) ↔ J < r ∨ (J = r ∧ 0 < t) := by
    have c : 2 ^ k * (2 * J) = 2 * (J * 2 ^ k) := by rw [Nat.mul_comm (2 ^ k), Nat.mul_assoc]
    rw [c]
    rcases Nat.lt_trichotomy J r with h | h | h
    · have := Nat.mul_le_mul_right (2 ^ k) (show J + 1 ≤ r from h)
      rw [Nat.add_mul] at this
      omega
    · subst h; omega
    · have := Nat.mul_le_mul_right (2 ^ k) (show r + 1 ≤ J from h)
      rw [Nat.add_mul] at this
      omega
  have eq : 2 ^ k * (2 * J) = 2 * (r * 2 ^ k + t) ↔ J = r ∧ t = 0 := by
    have c : 2 ^ k * (2 * J) = 2 * (J * 2 ^ k) := by rw [Nat.mul_comm (2 ^ k), Nat.mul_assoc]
    rw [c]
    rcases Nat.lt_trichotomy J r with h | h | h
    · have := Nat.mul_le_mul_right (2 ^ k) (show J + 1 ≤ r from h)
      rw [Nat.add_mul] at this
      omega
    · subst h; omega
    · have := Nat.mul_le_mul_right (2 ^ k) (show r + 1 ≤ J from h)
      rw [Nat.add_mul] at this
      omega
  congr 1
  by_cases c : J < r ∨ (J = r ∧ 0 < t)
  · rw [if_pos (.inl (lt.2 c)), if_pos (by omega)]
  · by_cases c2 : (J = r ∧ t = 0) ∧ m / (2 * J) % 2 = 1
    · rw [if_pos (.inr ⟨eq.2 c2.1, c2.2⟩), if_pos (by omega)]
    · rw [if_neg (fun h => h.elim (fun h => c (lt.1 h)) (fun h => c2 ⟨eq.1 h.1, h.2⟩)), if_neg (by omega)]
/-- The place of the last digit that is kept. -/
def last (p : Int) (L : Nat) : Int := max (p + L - 52) (-1074)
theorem nearest_eq (neg : Bool) (m : Nat) (p : Int) (L : Nat) (h1 : 2 ^ L ≤ m) (h2 : m < 2 ^ (L + 1)) :
    double.nearest neg m p = double.word neg (min ((last p L + 1074).toNat * 4503599627370496 + rne (m * 2 ^ (p - last p L).toNat) (last p L - p).toNat) 9218868437227405312) := by
  have h0 : m ≠ 0 := by have := Nat.two_pow_pos L; omega
  have hL : m.log2 = L := (Nat.log2_eq_iff h0).2 ⟨h1, h2⟩
  have e2 : double.binade = 4503599627370496 := by decide
  have e3 : double.infRung = 9218868437227405312 := by decide
  have e4 : double.leastPlace = -1074 := by decide
  unfold Format.nearest
  rw [if_neg h0]
  simp only [e2, e3, e4, hL, cut_rne, Nat.shiftLeft_eq]
  have hlast : max (p + ↑L - ↑double.fractionBits) (-1074) = last p L := rfl
  rw [hlast]
  congr 4
theorem nearest_zero (neg : Bool) (p : Int) : double.nearest neg 0 p = double.word neg 0 := by
  unfold Format.nearest; rw [if_pos rfl]
theorem log_of {m : Nat} (h : 0 < m) : ∃ L, 2 ^ L ≤ m ∧ m < 2 ^ (L + 1) := ⟨m.log2, Nat.log2_self_le (by omega), Nat.lt_log2_self⟩
theorem nearest_scale (neg : Bool) (m k : Nat) (p : Int) : double.nearest neg (m * 2 ^ k) p = double.nearest neg m (p + k) := by
  by_cases h : m = 0
  · subst h; rw [Nat.zero_mul, nearest_zero, nearest_zero]
  · obtain ⟨L, h1, h2⟩ := log_of (m := m) (by omega)
    have hk : 0 < 2 ^ k := Nat.two_pow_pos _
    rw [nearest_eq neg m (p + k) L h1 h2, nearest_eq neg (m * 2 ^ k) p (L + k) (by rw [Nat.pow_add]; exact Nat.mul_le_mul_right _ h1) (by rw [show L + k + 1 = (L + 1) + k by omega, Nat.pow_add _ (L + 1)]; exact Nat.mul_lt_mul_of_pos_right h2 hk)]
    have hl : last p (L + k) = last (p + k) L := by unfold last; congr 1; omega
    rw [hl]
    generalize last (p + k) L = l
    congr 3
    rcases Int.le_total l p with c | c
    · rw [show (l - p).toNat = 0 by omega, show (l - (p + k)).toNat = 0 by omega, Nat.mul_assoc, ← Nat.pow_add, show k + (p - l).toNat = (p + k - l).toNat by omega]
    · rw [show (p - l).toNat = 0 by omega, Nat.pow_zero, Nat.mul_one]
      rcases Int.le_total l (p + k) with c2 | c2
      · obtain ⟨a, ha⟩ : ∃ a : Nat, a = (p + k - l).toNat := ⟨_, rfl⟩
        rw [show k = a + (l - p).toNat by omega, show (l - p).toNat = 0 + (l - p).toNat by omega, Nat.pow_add, ← Nat.mul_assoc, Nat.zero_add, show rne (m * 2 ^ a * 2 ^ (l - p).toNat) (l - p).toNat = rne (m * 2 ^ a * 2 ^ (l - p).toNat) (0 + (l - p).toNat) by rw [Nat.zero_add], rne_scale]
        congr 1
        · rw [show (p + ((a + (l - p).toNat : Nat) : Int) - l).toNat = a by omega]
        · omega
      · rw [show (l - p).toNat = (l - (p + k)).toNat + k by omega, rne_scale, show (p + k - l).toNat = 0 by omega, Nat.pow_zero, Nat.mul_one]
/-- What lies far below is told by one bit. -/
theorem nearest_sticky (neg : Bool) (m k t : Nat) (p : Int) (ht : t < 2 ^ k) (h0 : 0 < 2 * m + t) (hm : 9007199254740992 ≤ m ∨ p + k + 1 ≤ -1074) :
    double.nearest neg (m * 2 ^ k + t) p = double.nearest neg (2 * m + if t = 0 then 0 else 1) (p + k - 1) := by
  have hk : 0 < 2 ^ k := Nat.two_pow_pos _
  by_cases hm0 : m = 0
  · -- all below the half of the least
    subst hm0
    have hp : p + k + 1 ≤ -1074 := by omega
    rw [if_neg (by omega), Nat.zero_mul, Nat.zero_add, Nat.mul_zero, Nat.zero_add]
    have small : ∀ (x : Nat) (L : Nat) (q : Int), 2 ^ L ≤ x → x < 2 ^ (L + 1) → q + L + 2 ≤ -1074 → double.nearest neg x q = double.word neg 0 := by
      intro x L q a b c
      rw [nearest_eq neg x q L a b]
      have hl : last q L = -1074 := by unfold last; omega
      rw [hl, show (q - -1074).toNat = 0 by omega, Nat.pow_zero, Nat.mul_one, show ((-1074 : Int) + 1074).toNat = 0 by omega, Nat.zero_mul, Nat.zero_add]
      have h3 : 2 ^ (L + 2) ≤ 2 ^ (-1074 - q).toNat := Nat.pow_le_pow_right (by decide) (by omega)
      have h4 : 2 ^ (L + 2) = 2 * 2 ^ (L + 1) := by rw [Nat.pow_succ, Nat.mul_comm]
      unfold rne
      rw [Nat.div_eq_of_lt (by omega), Nat.mod_eq_of_lt (by omega), if_neg (by omega)]
      rfl
    obtain ⟨L, h1, h2⟩ := log_of (m := t) (by omega)
    have hLk : L < k := (Nat.pow_lt_pow_iff_right (by decide)).1 (Nat.lt_of_le_of_lt h1 ht)
    rw [small t L p h1 h2 (by omega), small 1 0 (p + k - 1) (by decide) (by decide) (by omega)]
  · obtain ⟨L, h1, h2⟩ := log_of (m := m) (by omega)
    obtain ⟨s, hs, hs1⟩ : ∃ s, (if t = 0 then 0 else 1) = s ∧ s ≤ 1 := ⟨_, rfl, by split <;> omega⟩
    have hL : 53 ≤ L ∨ p + k + 1 ≤ -1074 := by
      rcases hm with h | h
      · left
        have : 2 ^ 53 < 2 ^ (L + 1) := Nat.lt_of_le_of_lt (by omega) h2
        have := (Nat.pow_lt_pow_iff_right (a := 2) (by decide)).1 this
        omega
      · exact .inr h
    have a1 : 2 ^ (L + k) ≤ m * 2 ^ k + t := by
      rw [Nat.pow_add]
      exact Nat.le_trans (Nat.mul_le_mul_right _ h1) (Nat.le_add_right ..)
    have a2 : m * 2 ^ k + t < 2 ^ (L + k + 1) := by
      rw [show L + k + 1 = (L + 1) + k by omega, Nat.pow_add _ (L + 1)]
      have := Nat.mul_le_mul_right (2 ^ k) (show m + 1 ≤ 2 ^ (L + 1) from h2)
      rw [Nat.add_mul] at this
      omega
    have b1 : 2 ^ (L + 1) ≤ 2 * m + s := by rw [Nat.pow_succ]; omega
    have b2 : 2 * m + s < 2 ^ (L + 1 + 1) := by rw [Nat.pow_succ]; omega
    rw [hs, nearest_eq neg _ p (L + k) a1 a2, nearest_eq neg _ (p + k - 1) (L + 1) b1 b2]
    have hl : last p (L + k) = last (p + k - 1) (L + 1) := by unfold last; congr 1; omega
    have hg : p + k + 1 ≤ last (p + k - 1) (L + 1) := by unfold last; omega
    rw [hl]
    generalize last (p + k - 1) (L + 1) = l at hg ⊢
    congr 3
    obtain ⟨j, hj⟩ : ∃ j : Nat, (j : Int) = l - (p + k + 1) := ⟨(l - (p + k + 1)).toNat, by omega⟩
    rw [show (p - l).toNat = 0 by omega, show (p + k - 1 - l).toNat = 0 by omega, show (l - p).toNat = k + 1 + j by omega, show (l - (p + k - 1)).toNat = j + 2 by omega, Nat.pow_zero, Nat.mul_one, Nat.mul_one, rne_sticky m k t j ht, hs]
end Go.Proofs.Ytokhgodcamhibaa.Fl
namespace Go.Proofs.Ytokhgodcamhibaa.Fl
open Ieee
set_option linter.unusedVariables false
/-- The state of a rounding: a mantissa, a half, a rest. -/
def st (m : Nat) (h r : Bool) : Nat := 4 * m + 2 * h.toNat + r.toNat
theorem round_down (b : Bool) (m : Nat) (e : Int) (h r : Bool) (hp : 0 < st m h r) (hc : 9007199254740992 ≤ m ∨ e < -1074) :
    double.nearest b (st m h r) (e - 2) = double.nearest b (st (m / 2) (decide (m % 2 = 1)) (r || h)) (e + 1 - 2) := by
  have key := nearest_sticky b m 2 (2 * h.toNat + r.toNat) (e - 2) (by cases h <;> cases r <;> decide) (by unfold st at hp; omega) (by omega)
  have e1 : st m h r = m * 2 ^ 2 + (2 * h.toNat + r.toNat) := by unfold st; omega
  have e2 : 2 * m + (if 2 * h.toNat + r.toNat = 0 then 0 else 1) = st (m / 2) (decide (m % 2 = 1)) (r || h) := by
    unfold st
    rcases Nat.mod_two_eq_zero_or_one m with q | q
    · cases h <;> cases r <;> simp [q] <;> omega
    · cases h <;> cases r <;> simp [q] <;> omega
  rw [e1, key, e2]
  congr 1
  omega
theorem st_pos {m : Nat} {h r : Bool} (hp : 0 < st m h r) : 0 < st (m / 2) (decide (m % 2 = 1)) (r || h) := by
  unfold st at *
  rcases Nat.mod_two_eq_zero_or_one m with q | q
  · cases h <;> cases r <;> simp_all <;> omega
  · cases h <;> cases r <;> simp_all
theorem round_jump (b : Bool) (e : Int) (h r : Bool) (hp : 0 < st 0 h r) (hc : e < -1074) :
    double.nearest b (st 0 h r) (e - 2) = double.nearest b (st 0 false (r || h)) (-1074 - 2) := by
  obtain ⟨k, hk⟩ : ∃ k : Nat, (k : Int) = -1073 - e := ⟨(-1073 - e).toNat, by omega⟩
  have hk2 : 2 ^ 2 ≤ 2 ^ k := Nat.pow_le_pow_right (by decide) (by omega)
  have key := nearest_sticky b 0 k (2 * h.toNat + r.toNat) (e - 2) (by cases h <;> cases r <;> simp <;> omega) (by unfold st at hp; omega) (by omega)
  have e1 : st 0 h r = 0 * 2 ^ k + (2 * h.toNat + r.toNat) := by unfold st; omega
  have e2 : 2 * 0 + (if 2 * h.toNat + r.toNat = 0 then 0 else 1) = st 0 false (r || h) := by
    unfold st
    cases h <;> cases r <;> simp
  rw [e1, key, e2]
  congr 1
  omega
theorem round_end (b : Bool) (m : Nat) (e : Int) (h r : Bool) (hp : 0 < st m h r) (h1 : m < 9007199254740992) (h2 : -1074 ≤ e) (h3 : 4503599627370496 ≤ m ∨ e = -1074) :
    double.nearest b (st m h r) (e - 2) = double.word b (min ((e + 1074).toNat * 4503599627370496 + (m + if h = true ∧ (r = true ∨ m % 2 = 1) then 1 else 0)) 9218868437227405312) := by
  obtain ⟨L, a1, a2⟩ := log_of hp
  have hst : st m h r < 4 * m + 4 := by unfold st; cases h <;> cases r <;> simp
  have hst2 : 4 * m ≤ st m h r := by unfold st; omega
  have hl : last (e - 2) L = e := by
    have hL : L ≤ 54 := by
      rcases Nat.lt_or_ge L 55 with c | c
      · omega
      · have : 2 ^ 55 ≤ 2 ^ L := Nat.pow_le_pow_right (by decide) c
        omega
    rcases h3 with c | c
    · have hL2 : 54 ≤ L := by
        rcases Nat.lt_or_ge L 54 with d | d
        · have : 2 ^ (L + 1) ≤ 2 ^ 54 := Nat.pow_le_pow_right (by decide) (by omega)
          omega
        · exact d
      unfold last; omega
    · unfold last; omega
  rw [nearest_eq b _ _ L a1 a2, hl, show (e - 2 - e).toNat = 0 by omega, show (e - (e - 2)).toNat = 2 by omega, Nat.pow_zero, Nat.mul_one]
  congr 3
  unfold rne
  have d1 : st m h r / 2 ^ 2 = m := by omega
  have d2 : st m h r % 2 ^ 2 = 2 * h.toNat + r.toNat := by unfold st; cases h <;> cases r <;> simp <;> omega
  rw [d1, d2]
  congr 1
  cases h <;> cases r <;> simp
/-- What 'RoundTo' makes of a mantissa, an exponent and whether more is left. -/
def rnd (b : Bool) (m : Nat) (e : Int) (more : Bool) : Nat := double.nearest b (2 * m + (decide (72057594037927936 ≤ m) && more).toNat) (e - 1)
theorem rnd_false (b : Bool) (m : Nat) (e : Int) : rnd b m e false = double.nearest b m e := by
  unfold rnd
  rw [Bool.and_false]
  have := nearest_scale b m 1 (e - 1)
  rw [show e - 1 + ((1 : Nat) : Int) = e by omega] at this
  rw [← this]
  congr 1
  show 2 * m + 0 = _
  omega
theorem rnd_more {m : Nat} (b : Bool) (e : Int) (more : Bool) (h : 72057594037927936 ≤ m) : rnd b m e more = double.nearest b (2 * m + more.toNat) (e - 1) := by
  unfold rnd
  rw [decide_eq_true h, Bool.true_and]
theorem rnd_st (b : Bool) (m : Nat) (e : Int) (more : Bool) : rnd b m e more = double.nearest b (st m false (decide (72057594037927936 ≤ m) && more)) (e - 2) := by
  by_cases h : (decide (72057594037927936 ≤ m) && more) = true
  · have hm : 72057594037927936 ≤ m := by simp at h; exact h.1
    rw [rnd_more b e more hm, h]
    have hmore : more = true := by simp at h; exact h.2
    subst hmore
    have key := nearest_sticky b m 2 1 (e - 2) (by decide) (by omega) (by omega)
    rw [if_neg (by decide)] at key
    rw [show st m false true = m * 2 ^ 2 + 1 by unfold st; simp; omega, key]
    congr 1
    omega
  · have h' : (decide (72057594037927936 ≤ m) && more) = false := by simpa using h
    unfold rnd
    rw [h']
    have := nearest_scale b (2 * m) 1 (e - 2)
    rw [show e - 2 + ((1 : Nat) : Int) = e - 1 by omega] at this
    show double.nearest b (2 * m + 0) _ = _
    rw [Nat.add_zero, ← this]
    congr 1
    unfold st
    simp; omega
end Go.Proofs.Ytokhgodcamhibaa.Fl
namespace Go.Proofs.Ytokhgodcamhibaa.Fl
open Ieee
set_option linter.unusedVariables false
set_option linter.unusedSimpArgs false
theorem c_binade : double.binade = 4503599627370496 := by decide
theorem c_inf : double.infRung = 9218868437227405312 := by decide
theorem c_least : double.leastPlace = -1074 := by decide
theorem c_sign : double.signWeight = 9223372036854775808 := by decide
/-- Sign, exponent field, fraction field of a word. -/
def sg (x : Nat) : Bool := x / 9223372036854775808 % 2 == 1
def ex (x : Nat) : Nat := x / 4503599627370496 % 2048
def fr (x : Nat) : Nat := x % 4503599627370496
def mant (x : Nat) : Nat := if ex x = 0 then fr x else 4503599627370496 + fr x
def place (x : Nat) : Int := if ex x = 0 then -1074 else (ex x : Int) - 1075
theorem read_eq (x : Nat) : double.read x = if ex x < 2047 then .number (sg x) (mant x) (place x) else if fr x = 0 then .infinity (sg x) else .nan (sg x) (fr x) := by
  unfold Format.read mant place
  simp only [c_binade, c_inf, c_least, c_sign]
  have hs : (x / 9223372036854775808 % 2 == 1) = sg x := rfl
  rw [hs]
  have h1 : x % 9223372036854775808 = ex x * 4503599627370496 + fr x := by unfold ex fr; omega
  have h2 : fr x < 4503599627370496 := by unfold fr; omega
  have h3 : ex x < 2048 := by unfold ex; omega
  rw [h1]
  generalize ex x = e at *
  generalize fr x = f at *
  by_cases a : e = 0
  · subst a
    rw [if_pos (by omega), if_pos (by omega), if_pos rfl, if_pos rfl]
    congr 1
    omega
  · rw [if_neg (by omega), if_neg a, if_neg a]
    by_cases b : e < 2047
    · rw [if_pos (by omega), if_pos b]
      rw [show (e * 4503599627370496 + f) % 4503599627370496 = f by omega, show (e * 4503599627370496 + f) / 4503599627370496 = e by omega]
      congr 1
      omega
    · rw [if_neg (by omega), if_neg b]
      by_cases c : f = 0
      · rw [if_pos (by omega), if_pos c]
      · rw [if_neg (by omega), if_neg c, show e * 4503599627370496 + f - 9218868437227405312 = f by omega]
theorem ex_lt (x : Nat) : ex x < 2048 := by unfold ex; omega
theorem fr_lt (x : Nat) : fr x < 4503599627370496 := by unfold fr; omega
theorem mant_lt (x : Nat) : mant x < 9007199254740992 := by have := fr_lt x; unfold mant; split <;> omega
theorem place_ge (x : Nat) : -1074 ≤ place x := by unfold place; split <;> omega
theorem place_le {x : Nat} (h : ex x < 2047) : place x ≤ 971 := by unfold place; split <;> omega
theorem mant_norm (x : Nat) : 4503599627370496 ≤ mant x ∨ place x = -1074 := by unfold mant place; split <;> omega
theorem low_eq {x : Nat} (c : ¬ 9223372036854775808 ≤ x) : x / 4503599627370496 % 2048 * 4503599627370496 + x % 4503599627370496 = x := by omega
theorem high_eq {x : Nat} (hx : x < 18446744073709551616) (c : 9223372036854775808 ≤ x) : 9223372036854775808 + (x / 4503599627370496 % 2048 * 4503599627370496 + x % 4503599627370496) = x := by omega
theorem word_eq (b : Bool) (r : Nat) : double.word b r = if b then 9223372036854775808 + r else r := by unfold Format.word; rw [c_sign]
/-- A number's own mantissa and place make its word again. -/
theorem nearest_self {x : Nat} (hx : x < 18446744073709551616) (h : ex x < 2047) : double.nearest (sg x) (mant x) (place x) = x := by
  have hb : sg x = decide (9223372036854775808 ≤ x) := by
    unfold sg
    by_cases c : 9223372036854775808 ≤ x
    · rw [decide_eq_true c, beq_iff_eq]; omega
    · rw [decide_eq_false c]; rw [← Bool.not_eq_true, beq_iff_eq]; omega
  by_cases h0 : mant x = 0
  · rw [h0, nearest_zero, word_eq, hb]
    have : ex x = 0 ∧ fr x = 0 := by unfold mant at h0; split at h0 <;> omega
    unfold ex fr at this
    by_cases c : 9223372036854775808 ≤ x
    · rw [decide_eq_true c, if_pos rfl]; omega
    · rw [decide_eq_false c, if_neg Bool.false_ne_true]; omega
  · have hp : 0 < st (mant x) false false := by unfold st; omega
    have key := round_end (sg x) (mant x) (place x) false false hp (mant_lt x) (place_ge x) (mant_norm x)
    have e1 : st (mant x) false false = mant x * 2 ^ 2 := by unfold st; simp; omega
    rw [e1, nearest_scale, show place x - 2 + ((2 : Nat) : Int) = place x by omega, if_neg (by simp)] at key
    rw [key, word_eq, Nat.add_zero]
    have e2 : (place x + 1074).toNat * 4503599627370496 + mant x = ex x * 4503599627370496 + fr x := by
      unfold place mant
      split
      · rename_i c; rw [c]; omega
      · rw [show ((ex x : Int) - 1075 + 1074).toNat = ex x - 1 by omega]; omega
    rw [e2, Nat.min_eq_left (by have := fr_lt x; omega), hb]
    unfold ex fr
    by_cases c : 9223372036854775808 ≤ x
    · rw [decide_eq_true c, if_pos rfl]; exact high_eq hx c
    · rw [decide_eq_false c, if_neg Bool.false_ne_true]; exact low_eq c
theorem signed_eq (s : Bool) (m up : Nat) : signed s m up = if s then -((m * 2 ^ up : Nat) : Int) else ((m * 2 ^ up : Nat) : Int) := by
  unfold signed; rw [Nat.shiftLeft_eq]
end Go.Proofs.Ytokhgodcamhibaa.Fl
namespace Go.Proofs.Ytokhgodcamhibaa.Fl
open Ieee
set_option linter.unusedVariables false
set_option linter.unusedSimpArgs false
/-- What a finite word stands for, without its sign, in units of the least number. -/
def V (x : Nat) : Nat := mant x * 2 ^ (place x + 1074).toNat
theorem near_eq (b : Bool) {M N : Nat} {p q : Int} (a c : Nat) (h : M * 2 ^ a = N * 2 ^ c) (hp : p - a = q - c) : double.nearest b M p = double.nearest b N q := by
  have h1 := nearest_scale b M a (p - a)
  have h2 := nearest_scale b N c (q - c)
  rw [show p - a + (a : Int) = p by omega] at h1
  rw [show q - c + (c : Int) = q by omega] at h2
  rw [← h1, ← h2, h, hp]
theorem nearest_word (b : Bool) (m : Nat) (p : Int) : double.nearest b m p = double.word b (double.nearest false m p) := by
  have h : ∀ r, double.word false r = r := fun r => rfl
  unfold Format.nearest
  by_cases h0 : m = 0
  · rw [if_pos h0, if_pos h0, h]
  · rw [if_neg h0, if_neg h0]
    simp only [cut_rne, h]
/-- A word that is finite and not below 0. -/
def Pos (x : Nat) : Prop := x < 9218868437227405312
theorem Pos.ex {x : Nat} (h : Pos x) : ex x < 2047 := by unfold Pos at h; unfold Fl.ex; omega
theorem Pos.sg {x : Nat} (h : Pos x) : sg x = false := by
  unfold Pos at h; unfold Fl.sg
  rw [← Bool.not_eq_true, beq_iff_eq]; omega
theorem Pos.self {x : Nat} (h : Pos x) : double.nearest false (mant x) (place x) = x := by
  have := nearest_self (x := x) (by unfold Pos at h; omega) h.ex
  rwa [h.sg] at this
theorem Pos.read {x : Nat} (h : Pos x) : double.read x = .number false (mant x) (place x) := by rw [read_eq, if_pos h.ex, h.sg]
theorem near_val (b : Bool) {M : Nat} {p : Int} {x : Nat} (hx : Pos x) (hp : -1074 ≤ p) (h : M * 2 ^ (p + 1074).toNat = V x) : double.nearest b M p = double.word b x := by
  have h2 := place_ge x
  rw [near_eq b (N := mant x) (q := place x) (p + 1074).toNat (place x + 1074).toNat h (by omega), nearest_word, hx.self]
theorem near_V (b : Bool) {x : Nat} (hx : Pos x) : double.nearest b (V x) (-1074) = double.word b x := near_val b hx (by omega) (by rw [show ((-1074 : Int) + 1074).toNat = 0 by omega, Nat.pow_zero, Nat.mul_one])
theorem V_zero : V 0 = 0 := by decide
/-- Each number of few digits is a word's. -/
theorem word_of (M j : Nat) (hM : M < 9007199254740992) (hN : M * 2 ^ j < 2 ^ 2098) : ∃ x, Pos x ∧ V x = M * 2 ^ j := by
  by_cases h0 : M * 2 ^ j < 9007199254740992
  · refine ⟨M * 2 ^ j, by unfold Pos; omega, ?_⟩
    generalize M * 2 ^ j = N at h0
    unfold V mant place ex fr
    by_cases c : N / 4503599627370496 % 2048 = 0
    · rw [if_pos c, if_pos c, show ((-1074 : Int) + 1074).toNat = 0 by omega, Nat.pow_zero, Nat.mul_one]; omega
    · rw [if_neg c, if_neg c, show ((N / 4503599627370496 % 2048 : Nat) : Int) - 1075 + 1074 = 0 by omega, Int.toNat_zero, Nat.pow_zero, Nat.mul_one]; omega
  · have hpos : 0 < M * 2 ^ j := by omega
    obtain ⟨L, h1, h2⟩ := log_of hpos
    have hL : 53 ≤ L := by
      rcases Nat.lt_or_ge L 53 with c | c
      · have : 2 ^ (L + 1) ≤ 2 ^ 53 := Nat.pow_le_pow_right (by decide) (by omega)
        omega
      · exact c
    have hLj : L ≤ 52 + j := by
      have a1 : M * 2 ^ j < 2 ^ (53 + j) := by
        rw [Nat.pow_add]
        exact Nat.mul_lt_mul_of_pos_right hM (Nat.two_pow_pos _)
      have := (Nat.pow_lt_pow_iff_right (a := 2) (by decide)).1 (Nat.lt_of_le_of_lt h1 a1)
      omega
    have hLk : L < 2098 := (Nat.pow_lt_pow_iff_right (a := 2) (by decide)).1 (Nat.lt_of_le_of_lt h1 hN)
    obtain ⟨s, hs⟩ : ∃ s, L = 52 + s := ⟨L - 52, by omega⟩
    obtain ⟨d, hd⟩ : ∃ d, j = d + s := ⟨j - s, by omega⟩
    have hp : 0 < 2 ^ s := Nat.two_pow_pos _
    have e1 : M * 2 ^ j = M * 2 ^ d * 2 ^ s := by rw [hd, Nat.pow_add, Nat.mul_assoc]
    have b1 : 4503599627370496 ≤ M * 2 ^ d := by
      rw [e1, hs, Nat.pow_add] at h1
      exact Nat.le_of_mul_le_mul_right h1 hp
    have b2 : M * 2 ^ d < 9007199254740992 := by
      rw [e1, hs, show 52 + s + 1 = 53 + s by omega, Nat.pow_add] at h2
      exact Nat.lt_of_mul_lt_mul_right h2
    rw [e1]
    generalize M * 2 ^ d = m at b1 b2
    have hs2 : s ≤ 2045 := by omega
    refine ⟨s * 4503599627370496 + m, by unfold Pos; omega, ?_⟩
    have hex : ex (s * 4503599627370496 + m) = s + 1 := by unfold ex; omega
    have hfr : fr (s * 4503599627370496 + m) = m - 4503599627370496 := by unfold fr; omega
    unfold V mant place
    rw [hex, hfr, if_neg (by omega), if_neg (by omega), show ((s + 1 : Nat) : Int) - 1075 + 1074 = s by omega, Int.toNat_natCast, show 4503599627370496 + (m - 4503599627370496) = m by omega]
theorem V_lt {x : Nat} (h : ex x < 2047) : V x < 2 ^ 2098 := by
  unfold V
  have h1 := mant_lt x
  have h2 := place_le h
  have h3 := place_ge x
  calc mant x * 2 ^ (place x + 1074).toNat < 2 ^ 53 * 2 ^ (place x + 1074).toNat := Nat.mul_lt_mul_of_pos_right h1 (Nat.two_pow_pos _)
    _ = 2 ^ (53 + (place x + 1074).toNat) := by rw [Nat.pow_add]
    _ ≤ 2 ^ 2098 := Nat.pow_le_pow_right (by decide) (by omega)
/-- A difference that is a word's value is that word. -/
theorem sub_exact {r s x : Nat} (hr : Pos r) (hs : Pos s) (hx : Pos x) (h : V r = V s + V x) : double.sub r s = some x := by
  unfold Format.sub
  rw [hr.read, hs.read]
  unfold Datum.opposite Datum.sum
  simp only [Option.map_some, Bool.not_false]
  rw [signed_eq, signed_eq]
  simp only [Bool.false_eq_true, if_false, if_true]
  have g1 := place_ge r
  have g2 := place_ge s
  obtain ⟨b, hb⟩ : ∃ b, b = min (place r) (place s) := ⟨_, rfl⟩
  rw [← hb]
  have e1 : mant r * 2 ^ (place r - b).toNat * 2 ^ (b + 1074).toNat = V r := by
    unfold V; rw [Nat.mul_assoc, ← Nat.pow_add, show (place r - b).toNat + (b + 1074).toNat = (place r + 1074).toNat by omega]
  have e2 : mant s * 2 ^ (place s - b).toNat * 2 ^ (b + 1074).toNat = V s := by
    unfold V; rw [Nat.mul_assoc, ← Nat.pow_add, show (place s - b).toNat + (b + 1074).toNat = (place s + 1074).toNat by omega]
  generalize mant r * 2 ^ (place r - b).toNat = A at e1 ⊢
  generalize mant s * 2 ^ (place s - b).toNat = B at e2 ⊢
  have hp : 0 < 2 ^ (b + 1074).toNat := Nat.two_pow_pos _
  have hAB : B ≤ A := by
    apply Nat.le_of_mul_le_mul_right _ hp
    omega
  have hv : (A - B) * 2 ^ (b + 1074).toNat = V x := by rw [Nat.mul_sub_right_distrib]; omega
  have hn : ((A : Int) + -(B : Int)).natAbs = A - B := by omega
  unfold Format.write
  simp only [hn]
  rw [near_val _ hx (by omega) hv, word_eq]
  by_cases c : (A : Int) + -(B : Int) = 0
  · rw [if_pos c]; rfl
  · rw [if_neg c, decide_eq_false (by omega)]; rfl
/-- A positive number's digits, 53 of them, and their place. -/
def nm (x : Nat) : Nat := if ex x = 0 then fr x * 2 ^ (52 - (fr x).log2) else 4503599627370496 + fr x
def np (x : Nat) : Int := if ex x = 0 then ((fr x).log2 : Int) - 1126 else (ex x : Int) - 1075
theorem nm_ok {x : Nat} (h : Pos x) (h0 : 0 < x) : 4503599627370496 ≤ nm x ∧ nm x < 9007199254740992 ∧ -1126 ≤ np x ∧ np x ≤ 971 ∧ V x * 2 ^ 52 = nm x * 2 ^ (np x + 1126).toNat := by
  have hf := fr_lt x
  have he := h.ex
  unfold nm np V mant place
  by_cases c : ex x = 0
  · simp only [if_pos c]
    have hf0 : 0 < fr x := by unfold Pos at h; unfold ex at c; unfold fr; omega
    obtain ⟨L, hL⟩ : ∃ L, L = (fr x).log2 := ⟨_, rfl⟩
    have h1 : 2 ^ L ≤ fr x := by rw [hL]; exact Nat.log2_self_le (by omega)
    have h2 : fr x < 2 ^ (L + 1) := by rw [hL]; exact Nat.lt_log2_self
    have h3 : L < 52 := by rw [hL, Nat.log2_lt (by omega)]; omega
    rw [← hL]
    have e1 : 2 ^ L * 2 ^ (52 - L) = 4503599627370496 := by rw [← Nat.pow_add, show L + (52 - L) = 52 by omega]
    have e2 : 2 ^ (L + 1) * 2 ^ (52 - L) = 9007199254740992 := by rw [← Nat.pow_add, show L + 1 + (52 - L) = 53 by omega]
    have a1 : 2 ^ L * 2 ^ (52 - L) ≤ fr x * 2 ^ (52 - L) := Nat.mul_le_mul_right _ h1
    have a2 : fr x * 2 ^ (52 - L) < 2 ^ (L + 1) * 2 ^ (52 - L) := Nat.mul_lt_mul_of_pos_right h2 (Nat.two_pow_pos _)
    refine ⟨by omega, by omega, by omega, by omega, ?_⟩
    rw [show ((-1074 : Int) + 1074).toNat = 0 by omega, Nat.pow_zero, Nat.mul_one, show ((L : Int) - 1126 + 1126).toNat = L by omega, Nat.mul_assoc, ← Nat.pow_add, show 52 - L + L = 52 by omega]
  · simp only [if_neg c]
    refine ⟨by omega, by omega, by omega, by omega, ?_⟩
    rw [Nat.mul_assoc, ← Nat.pow_add]
    congr 2
    omega
theorem V_pos {x : Nat} (h : Pos x) (h0 : 0 < x) : 0 < V x := by
  obtain ⟨a, _, _, _, e⟩ := nm_ok h h0
  have : 0 < nm x * 2 ^ (np x + 1126).toNat := Nat.mul_pos (by omega) (Nat.two_pow_pos _)
  rcases Nat.eq_zero_or_pos (V x) with c | c
  · rw [c, Nat.zero_mul] at e; omega
  · exact c
theorem V_inj {x y : Nat} (hx : Pos x) (hy : Pos y) (h : V x = V y) : x = y := by
  have h1 := near_V false hx
  have h2 := near_V false hy
  rw [h] at h1
  exact h1.symm.trans h2
/-- How far the divisor is brought up in a round of 'math.Mod'. -/
theorem step_up {r y : Nat} (hr : Pos r) (hy : Pos y) (h0 : 0 < y) (h : V y ≤ V r) (k : Int) (hk : k = np r - np y - if nm r < nm y then 1 else 0) :
    0 ≤ k ∧ V y * 2 ^ k.toNat ≤ V r ∧ V r < 2 * (V y * 2 ^ k.toNat) := by
  have hy0 := V_pos hy h0
  have hr0 : 0 < r := by
    rcases Nat.eq_zero_or_pos r with c | c
    · subst c; rw [V_zero] at h; omega
    · exact c
  obtain ⟨a1, a2, a3, a4, a5⟩ := nm_ok hr hr0
  obtain ⟨b1, b2, b3, b4, b5⟩ := nm_ok hy h0
  have hv : nm y * 2 ^ (np y + 1126).toNat ≤ nm r * 2 ^ (np r + 1126).toNat := by rw [← a5, ← b5]; exact Nat.mul_le_mul_right _ h
  have hk0 : 0 ≤ k := by
    rcases Int.lt_or_le k 0 with c | c
    · exfalso
      by_cases d : nm r < nm y
      · rw [if_pos d] at hk
        have e : 2 ^ (np r + 1126).toNat ≤ 2 ^ (np y + 1126).toNat := Nat.pow_le_pow_right (by decide) (by omega)
        have h1 : nm r * 2 ^ (np r + 1126).toNat ≤ nm r * 2 ^ (np y + 1126).toNat := Nat.mul_le_mul_left _ e
        have h2 : nm r * 2 ^ (np y + 1126).toNat < nm y * 2 ^ (np y + 1126).toNat := Nat.mul_lt_mul_of_pos_right d (Nat.two_pow_pos _)
        omega
      · rw [if_neg d] at hk
        have e : 2 ^ ((np r + 1126).toNat + 1) ≤ 2 ^ (np y + 1126).toNat := Nat.pow_le_pow_right (by decide) (by omega)
        have h1 : nm r * 2 ^ (np r + 1126).toNat < 9007199254740992 * 2 ^ (np r + 1126).toNat := Nat.mul_lt_mul_of_pos_right a2 (Nat.two_pow_pos _)
        have h2 : 4503599627370496 * 2 ^ (np y + 1126).toNat ≤ nm y * 2 ^ (np y + 1126).toNat := Nat.mul_le_mul_right _ b1
        rw [Nat.pow_succ] at e
        omega
    · exact c
  have e52 : 0 < 2 ^ 52 := by decide
  have key : V y * 2 ^ k.toNat * 2 ^ 52 = nm y * 2 ^ (np y + 1126 + k).toNat := by
    rw [Nat.mul_right_comm, b5, Nat.mul_assoc, ← Nat.pow_add]
    congr 2
    omega
  have up : V y * 2 ^ k.toNat * 2 ^ 52 ≤ V r * 2 ^ 52 ∧ V r * 2 ^ 52 < 2 * (V y * 2 ^ k.toNat) * 2 ^ 52 := by
    rw [Nat.mul_assoc 2, key, a5]
    by_cases d : nm r < nm y
    · rw [if_pos d] at hk
      have e : (np r + 1126).toNat = (np y + 1126 + k).toNat + 1 := by omega
      rw [e, Nat.pow_succ]
      have hp : 0 < 2 ^ (np y + 1126 + k).toNat := Nat.two_pow_pos _
      generalize 2 ^ (np y + 1126 + k).toNat = P at hp
      constructor
      · have h1 : nm y * P ≤ (2 * nm r) * P := Nat.mul_le_mul_right _ (by omega)
        rw [Nat.mul_assoc 2] at h1
        rw [← Nat.mul_assoc]; omega
      · have h1 : nm r * P < nm y * P := Nat.mul_lt_mul_of_pos_right d hp
        rw [← Nat.mul_assoc]; omega
    · rw [if_neg d] at hk
      have e : (np r + 1126).toNat = (np y + 1126 + k).toNat := by omega
      rw [e]
      have hp : 0 < 2 ^ (np y + 1126 + k).toNat := Nat.two_pow_pos _
      generalize 2 ^ (np y + 1126 + k).toNat = P at hp
      constructor
      · exact Nat.mul_le_mul_right _ (by omega)
      · rw [← Nat.mul_assoc]
        exact Nat.mul_lt_mul_of_pos_right (by omega) hp
  exact ⟨hk0, Nat.le_of_mul_le_mul_right up.1 e52, Nat.lt_of_mul_lt_mul_right up.2⟩
/-- A round's difference is a word's value. -/
theorem diff_word {r z : Nat} (hr : Pos r) (hz : Pos z) (h1 : V z ≤ V r) (h2 : V r < 2 * V z) : ∃ x, Pos x ∧ V r = V z + V x := by
  have g1 := place_ge r
  have g2 := place_ge z
  obtain ⟨b, hb⟩ : ∃ b, b = min (place r) (place z) := ⟨_, rfl⟩
  have e1 : mant r * 2 ^ (place r - b).toNat * 2 ^ (b + 1074).toNat = V r := by
    unfold V; rw [Nat.mul_assoc, ← Nat.pow_add, show (place r - b).toNat + (b + 1074).toNat = (place r + 1074).toNat by omega]
  have e2 : mant z * 2 ^ (place z - b).toNat * 2 ^ (b + 1074).toNat = V z := by
    unfold V; rw [Nat.mul_assoc, ← Nat.pow_add, show (place z - b).toNat + (b + 1074).toNat = (place z + 1074).toNat by omega]
  have hp : 0 < 2 ^ (b + 1074).toNat := Nat.two_pow_pos _
  have hm1 := mant_lt r
  have hm2 := mant_lt z
  have hc : (place r - b).toNat = 0 ∨ (place z - b).toNat = 0 := by omega
  obtain ⟨A, hA⟩ : ∃ A, A = mant r * 2 ^ (place r - b).toNat := ⟨_, rfl⟩
  obtain ⟨B, hB⟩ : ∃ B, B = mant z * 2 ^ (place z - b).toNat := ⟨_, rfl⟩
  rw [← hA] at e1
  rw [← hB] at e2
  have hAB : B ≤ A := Nat.le_of_mul_le_mul_right (by rw [e1, e2]; exact h1) hp
  have hA2 : A < 2 * B := Nat.lt_of_mul_lt_mul_right (a := 2 ^ (b + 1074).toNat) (by rw [Nat.mul_assoc, e1, e2]; exact h2)
  have hlt : A - B < 9007199254740992 := by
    rcases hc with c | c
    · rw [c, Nat.pow_zero, Nat.mul_one] at hA; omega
    · rw [c, Nat.pow_zero, Nat.mul_one] at hB; omega
  have hv : (A - B) * 2 ^ (b + 1074).toNat = V r - V z := by rw [Nat.mul_sub_right_distrib, e1, e2]
  obtain ⟨x, hx, hvx⟩ := word_of (A - B) (b + 1074).toNat hlt (by rw [hv]; have := V_lt hr.ex; omega)
  exact ⟨x, hx, by rw [hvx, hv]; omega⟩
/-- The word of a rest of numbers that are not 0. -/
def remW (a b : Nat) : Nat := double.nearest (sg a) (V a % V b) (-1074)
/-- A result as a whole number; the one NaN where there is none. -/
def opW (o : Option Nat) : Int := ((o.getD 9221120237041090560 : Nat) : Int)
/-- What the rest of two words is. -/
def remI (X Y : Nat) : Int :=
  match double.read X, double.read Y with
  | .nan _ _, _ => 9221120237041090560
  | _, .nan _ _ => 9221120237041090560
  | .infinity _, _ => 9221120237041090560
  | .number _ m _, .infinity _ => (X : Int)
  | .number _ m _, .number _ n _ => if n = 0 then 9221120237041090560 else if m = 0 then (X : Int) else (remW X Y : Int)
theorem V_rung {x : Nat} (h : Pos x) : V x = if x < 4503599627370496 then x else (4503599627370496 + x % 4503599627370496) * 2 ^ (x / 4503599627370496 - 1) := by
  have he : ex x = x / 4503599627370496 := by unfold Pos at h; unfold ex; omega
  unfold V mant place
  rw [he]
  by_cases c : x < 4503599627370496
  · rw [if_pos (by omega), if_pos (by omega), if_pos c, show ((-1074 : Int) + 1074).toNat = 0 by omega, Nat.pow_zero, Nat.mul_one]; unfold fr; omega
  · rw [if_neg (by omega), if_neg (by omega), if_neg c]; unfold fr
    congr 2
    omega
theorem V_succ {x : Nat} (h : Pos (x + 1)) : V x < V (x + 1) := by
  have h' : Pos x := by unfold Pos at *; omega
  rw [V_rung h', V_rung h]
  by_cases c : x < 4503599627370496
  · rw [if_pos c]
    by_cases c1 : x + 1 < 4503599627370496
    · rw [if_pos c1]; omega
    · have : x + 1 = 4503599627370496 := by omega
      rw [this]
      simp
      omega
  · rw [if_neg c, if_neg (by omega)]
    obtain ⟨q, f, hx, hf⟩ : ∃ q f, x = 4503599627370496 * (q + 1) + f ∧ f < 4503599627370496 := ⟨x / 4503599627370496 - 1, x % 4503599627370496, by omega, by omega⟩
    have hp : 0 < 2 ^ q := Nat.two_pow_pos _
    rw [show x % 4503599627370496 = f by omega, show x / 4503599627370496 - 1 = q by omega]
    by_cases c1 : f + 1 < 4503599627370496
    · rw [show (x + 1) % 4503599627370496 = f + 1 by omega, show (x + 1) / 4503599627370496 - 1 = q by omega]
      exact Nat.mul_lt_mul_of_pos_right (by omega) hp
    · rw [show (x + 1) % 4503599627370496 = 0 by omega, show (x + 1) / 4503599627370496 - 1 = q + 1 by omega, Nat.pow_succ, Nat.add_zero, Nat.mul_comm (2 ^ q) 2, ← Nat.mul_assoc]
      exact Nat.mul_lt_mul_of_pos_right (by omega) hp
theorem V_lt_of {x y : Nat} (hy : Pos y) (h : x < y) : V x < V y := by
  obtain ⟨d, rfl⟩ : ∃ d, y = x + 1 + d := ⟨y - x - 1, by omega⟩
  clear h
  induction d with
  | zero => exact V_succ hy
  | succ d ih => exact Nat.lt_trans (ih (by unfold Pos at *; omega)) (V_succ hy)
theorem V_mono {x y : Nat} (hx : Pos x) (hy : Pos y) (h : V x < V y) : x < y := by
  rcases Nat.lt_or_ge x y with c | c
  · exact c
  · exfalso
    rcases Nat.eq_or_lt_of_le c with e | e
    · rw [e] at h; omega
    · have := V_lt_of hx e; omega
end Go.Proofs.Ytokhgodcamhibaa.Fl
end
section
namespace Go.Proofs.Ytokhgodcamhibaa.Rnd
open Go.RowKit Go.Proofs.Ytokhgodcamhibaa.QFnExactDoBinary Go.Proofs.Ytokhgodcamhibaa.Num Go.Proofs.YtokhgodcamhibaaW.PrintWords Go.Proofs.YtokhgodcamhibaaW.PrintMore Go.Proofs.Ytokhgodcamhibaa.Fl Ieee
set_option linter.unusedVariables false
set_option linter.unusedSimpArgs false
theorem pow_up {a r : Int} {k : Nat} (n : Nat) (h : spec_l03Pow.f k a = some r) : spec_l03Pow.f (k + n) a = some r := by
  induction n with
  | zero => exact h
  | succ n ih => exact spec_l03Pow.mono a (k + n) r ih
theorem pow_k {a r : Int} {k : Nat} (hk : 100 ≤ k) (h : spec_l03Pow.f 100 a = some r) : spec_l03Pow.f k a = some r := by
  obtain ⟨n, rfl⟩ : ∃ n, k = 100 + n := ⟨k - 100, by omega⟩
  exact pow_up n h
theorem pow63 : spec_l03Pow.f 100 63 = some 9223372036854775808 := by decide +kernel
theorem pow56 : spec_l03Pow.f 100 56 = some 72057594037927936 := by decide +kernel
theorem sign_ok {k : Nat} (hk : 100 ≤ k) (b : Bool) (a : Nat) (h : a < 9223372036854775808) : spec_l03Sign.f k (a : Int) b = some ((double.word b a : Nat) : Int) := by
  unfold spec_l03Sign.f
  rw [word_eq]
  cases b
  · rw [if_neg Bool.false_ne_true, if_neg Bool.false_ne_true]
  · rw [if_pos rfl, if_pos rfl, pow_k hk pow63]
    simp only [Option.bind_some]
    rw [u64_id (by omega) (by omega)]
    congr 1
    omega
theorem word_min {b : Bool} {r : Nat} : double.word b (min r 9218868437227405312) < 18446744073709551616 := by
  rw [word_eq]
  have := Nat.min_le_right r 9218868437227405312
  cases b <;> simp <;> omega
theorem j9_ok {k : Nat} (hk : 101 ≤ k) (b : Bool) (m : Nat) (e : Int) (h1 : m < 9007199254740992) (h2 : -1074 ≤ e) (he : e ≤ 6000) (h3 : 4503599627370496 ≤ m ∨ e = -1074) :
    spec_RoundTo.j9 k b (m : Int) e = some ((double.word b (min ((e + 1074).toNat * 4503599627370496 + m) 9218868437227405312) : Nat) : Int) := by
  obtain ⟨k, rfl⟩ : ∃ q, k = q + 1 := ⟨k - 1, by omega⟩
  simp only [spec_RoundTo.j9]
  by_cases c : m < 4503599627370496
  · have hc : (m : Int) < 4503599627370496 := by omega
    rw [if_pos hc, sign_ok (by omega) b m (by omega)]
    simp only [Option.bind_some]
    have : e = -1074 := by omega
    subst this
    rw [show ((-1074 : Int) + 1074).toNat = 0 by omega, Nat.zero_mul, Nat.zero_add, Nat.min_eq_left (by omega)]
  · have hc : ¬ (m : Int) < 4503599627370496 := by omega
    rw [if_neg hc]
    by_cases c2 : e > 971
    · rw [if_pos c2]
      have := sign_ok (k := k) (by omega) b 9218868437227405312 (by omega)
      rw [show ((9218868437227405312 : Nat) : Int) = 9218868437227405312 from rfl] at this
      rw [this, Nat.min_eq_right (by omega)]
      rfl
    · rw [if_neg c2, Nat.min_eq_left (by omega)]
      rw [wrap64_id (n := e + 1075) (by omega) (by omega), u64_id (n := e + 1075) (by omega) (by omega), u64_id (n := (e + 1075) * 4503599627370496) (by omega) (by omega), u64_id (n := (m : Int) - 4503599627370496) (by omega) (by omega), u64_id (by omega) (by omega)]
      rw [show (m : Int) - 4503599627370496 + (e + 1075) * 4503599627370496 = (((e + 1074).toNat * 4503599627370496 + m : Nat) : Int) by omega, sign_ok (by omega) b _ (by omega)]
      rfl
theorem j8_ok {k : Nat} (hk : 102 ≤ k) (b : Bool) (m : Nat) (e : Int) (h1 : m ≤ 9007199254740992) (h2 : -1074 ≤ e) (he : e ≤ 5999) (h3 : 4503599627370496 ≤ m ∨ e = -1074) :
    spec_RoundTo.j8 k b (m : Int) e = some ((double.word b (min ((e + 1074).toNat * 4503599627370496 + m) 9218868437227405312) : Nat) : Int) := by
  obtain ⟨k, rfl⟩ : ∃ q, k = q + 1 := ⟨k - 1, by omega⟩
  simp only [spec_RoundTo.j8]
  by_cases c : m = 9007199254740992
  · have hc : (m : Int) = 9007199254740992 := by omega
    rw [if_pos hc, wrap64_id (n := e + 1) (by omega) (by omega)]
    have := j9_ok (k := k) (by omega) b 4503599627370496 (e + 1) (by omega) (by omega) (by omega) (.inl (Nat.le_refl _))
    rw [show ((4503599627370496 : Nat) : Int) = 4503599627370496 from rfl] at this
    rw [this, show (e + 1 + 1074).toNat * 4503599627370496 + 4503599627370496 = (e + 1074).toNat * 4503599627370496 + m by omega]
  · have hc : ¬ (m : Int) = 9007199254740992 := by omega
    rw [if_neg hc]
    exact j9_ok (by omega) b m e (by omega) h2 (by omega) h3
theorem end_ok {k : Nat} (hk : 110 ≤ k) (b : Bool) (m : Nat) (e : Int) (h r : Bool) (hp : 0 < st m h r) (h1 : m < 9007199254740992) (h2 : -1074 ≤ e) (he : e ≤ 5999) (h3 : 4503599627370496 ≤ m ∨ e = -1074) :
    spec_RoundTo.l1 k b (m : Int) e h r = some ((double.nearest b (st m h r) (e - 2) : Nat) : Int) := by
  obtain ⟨k, rfl⟩ : ∃ q, k = q + 3 := ⟨k - 3, by omega⟩
  rw [round_end b m e h r hp h1 h2 h3]
  have hc : ¬ (m : Int) ≥ 9007199254740992 := by omega
  simp only [spec_RoundTo.l1]
  rw [if_neg hc, decide_eq_false (show ¬ e < -1074 by omega)]
  simp only [spec_RoundTo.j6, Bool.false_eq_true, if_false]
  have hm : Int.tmod (m : Int) 2 = ((m % 2 : Nat) : Int) := by rw [tmod_pos (by omega)]; omega
  have key : ∀ f : Bool, spec_RoundTo.j7 (k + 1) b (m : Int) e f = some ((double.word b (min ((e + 1074).toNat * 4503599627370496 + (m + if f = true then 1 else 0)) 9218868437227405312) : Nat) : Int) := by
    intro f
    simp only [spec_RoundTo.j7]
    cases f
    · rw [if_neg Bool.false_ne_true, if_neg Bool.false_ne_true]
      exact j8_ok (by omega) b m e (by omega) h2 he h3
    · rw [if_pos rfl, if_pos rfl, u64_id (by omega) (by omega)]
      have := j8_ok (k := k) (by omega) b (m + 1) e (by omega) h2 he (by omega)
      rw [show ((m + 1 : Nat) : Int) = (m : Int) + 1 by omega] at this
      exact this
  rw [hm]
  cases h
  · simp only [Bool.false_eq_true, if_false, false_and]
    rw [key false]
    simp only [Bool.false_eq_true, if_false]
  · cases r
    · simp only [if_true, Bool.false_eq_true, if_false, true_and, false_or]
      rw [key]
      rcases Nat.mod_two_eq_zero_or_one m with q | q <;> simp [q]
    · simp only [if_true, true_and, true_or]
      rw [key true]
      simp only [if_true]
theorem j6_true (k : Nat) (b : Bool) (m : Nat) (e : Int) (h r : Bool) (hm : m < 18446744073709551616) (he0 : -6000 ≤ e) (he1 : e ≤ 6000) :
    spec_RoundTo.j6 (k + 1) b (m : Int) e h r true = if m / 2 = 0 ∧ e + 1 < -1074 then spec_RoundTo.l1 k b ((0 : Nat) : Int) (-1074) false ((r || h) || decide (m % 2 = 1)) else spec_RoundTo.l1 k b ((m / 2 : Nat) : Int) (e + 1) (decide (m % 2 = 1)) (r || h) := by
  have e1 : IntKind.u64.wrap (Int.tdiv (m : Int) 2) = ((m / 2 : Nat) : Int) := by rw [tdiv_pos (by omega), u64_id (by omega) (by omega)]; omega
  have e2 : wrap64 (e + 1) = e + 1 := wrap64_id (by omega) (by omega)
  have e3 : (Int.tmod (m : Int) 2 == 1) = decide (m % 2 = 1) := by
    rw [tmod_pos (by omega), Bool.eq_iff_iff, beq_iff_eq, decide_eq_true_eq]; omega
  simp only [spec_RoundTo.j6, e1, e2, e3, if_true]
  generalize decide (m % 2 = 1) = odd
  by_cases c1 : m / 2 = 0
  · rw [c1]
    by_cases c2 : e + 1 < -1074
    · refine Eq.trans ?_ (if_pos ⟨rfl, c2⟩).symm
      cases h <;> cases r <;> cases odd <;> simp only [Bool.false_eq_true, if_false, if_true, if_pos c2, Int.natCast_zero, Bool.or_false, Bool.or_true, Bool.false_or]
    · refine Eq.trans ?_ (if_neg (fun hh => c2 hh.2)).symm
      cases h <;> cases r <;> simp only [Bool.false_eq_true, if_false, if_true, if_neg c2, Int.natCast_zero, Bool.or_false, Bool.or_true, Bool.false_or]
  · have c1' : ¬ ((m / 2 : Nat) : Int) = 0 := by omega
    refine Eq.trans ?_ (if_neg (fun hh => c1 hh.1)).symm
    cases h <;> cases r <;> simp only [Bool.false_eq_true, if_false, if_true, if_neg c1', Bool.or_false, Bool.or_true, Bool.false_or]
theorem l1_ok (b : Bool) : ∀ (n k m : Nat) (e : Int) (h r : Bool), 2 * n + 110 ≤ k → n ≤ 5000 → m < 2 ^ (53 + n) → m < 18446744073709551616 → -1074 - (n : Int) ≤ e → e + n ≤ 5999 → -5900 ≤ e → (4503599627370496 ≤ m ∨ e ≤ -1074) → 0 < st m h r →
    spec_RoundTo.l1 k b (m : Int) e h r = some ((double.nearest b (st m h r) (e - 2) : Nat) : Int)
  | 0, k, m, e, h, r, hk, _, h1, _, h2, he, _, h3, hp => end_ok (by omega) b m e h r hp h1 (by omega) (by omega) (by omega)
  | n + 1, k, m, e, h, r, hk, hn, h1, hm, h2, he, he0, h3, hp => by
    by_cases hc : 9007199254740992 ≤ m ∨ e < -1074
    · obtain ⟨k, rfl⟩ : ∃ q, k = q + 2 := ⟨k - 2, by omega⟩
      have hl : spec_RoundTo.l1 (k + 2) b (m : Int) e h r = spec_RoundTo.j6 (k + 1) b (m : Int) e h r true := by
        rw [spec_RoundTo.l1]
        by_cases c : (m : Int) ≥ 9007199254740992
        · rw [if_pos c]
        · rw [if_neg c, decide_eq_true (show e < -1074 by omega)]
      have h1' : m / 2 < 2 ^ (53 + n) := by rw [show 53 + (n + 1) = 53 + n + 1 by omega, Nat.pow_succ] at h1; omega
      rw [hl, j6_true k b m e h r hm (by omega) (by omega), round_down b m e h r hp hc]
      have hp2 := st_pos hp
      by_cases cj : m / 2 = 0 ∧ e + 1 < -1074
      · rw [if_pos cj, cj.1]
        rw [cj.1] at hp2
        rw [round_jump b (e + 1) (decide (m % 2 = 1)) (r || h) hp2 cj.2]
        refine l1_ok b n k 0 (-1074) false _ (by omega) (by omega) (Nat.two_pow_pos _) (by omega) (by omega) (by omega) (by omega) (.inr (Int.le_refl _)) ?_
        unfold st at hp2 ⊢
        generalize decide (m % 2 = 1) = odd at *
        cases odd <;> cases r <;> cases h <;> simp at hp2 ⊢
      · rw [if_neg cj]
        exact l1_ok b n k (m / 2) (e + 1) _ _ (by omega) (by omega) h1' (by omega) (by omega) (by omega) (by omega) (by omega) hp2
    · exact end_ok (by omega) b m e h r hp (by omega) (by omega) (by omega) (by omega)
theorem l0_ok (b : Bool) : ∀ (n k m : Nat) (e : Int) (s : Bool), n + 8300 ≤ k → 4503599627370496 ≤ m * 2 ^ n → m < 18446744073709551616 → 0 < m → -5000 - (52 - (n : Int)) ≤ e → e ≤ 5000 → n ≤ 52 → (s = true → 72057594037927936 ≤ m) →
    spec_RoundTo.l0 k b (m : Int) e s = some ((double.nearest b (st m false s) (e - 2) : Nat) : Int) := by
  have fin : ∀ (k m : Nat) (e : Int) (s : Bool), 8200 ≤ k → m < 18446744073709551616 → 0 < m → -5100 ≤ e → e ≤ 5000 → (4503599627370496 ≤ m ∨ e ≤ -1074) → spec_RoundTo.j4 k b (m : Int) e s = some ((double.nearest b (st m false s) (e - 2) : Nat) : Int) := by
    intro k m e s hk hm h0 h1 h2 h3
    obtain ⟨k, rfl⟩ : ∃ q, k = q + 1 := ⟨k - 1, by omega⟩
    simp only [spec_RoundTo.j4]
    rcases Int.lt_or_le e (-1074) with c | c
    · obtain ⟨n, hn⟩ : ∃ n, n = 4026 := ⟨_, rfl⟩
      refine l1_ok b n k m e false s (by omega) (by omega) ?_ hm (by omega) (by omega) (by omega) h3 (by unfold st; omega)
      exact Nat.lt_of_lt_of_le hm (Nat.le_trans (show 18446744073709551616 ≤ 2 ^ 64 by decide) (Nat.pow_le_pow_right (by decide) (by omega)))
    · refine l1_ok b 11 k m e false s (by omega) (by omega) (by omega) hm (by omega) (by omega) (by omega) h3 (by unfold st; omega)
  intro n
  induction n with
  | zero =>
    intro k m e s hk h1 hm h0 h2 h3 h4 hs
    obtain ⟨k, rfl⟩ : ∃ q, k = q + 1 := ⟨k - 1, by omega⟩
    simp only [spec_RoundTo.l0]
    rw [Nat.pow_zero, Nat.mul_one] at h1
    rw [if_neg (by omega)]
    exact fin k m e s (by omega) hm h0 (by omega) h3 (.inl h1)
  | succ n ih =>
    intro k m e s hk h1 hm h0 h2 h3 h4 hs
    obtain ⟨k, rfl⟩ : ∃ q, k = q + 1 := ⟨k - 1, by omega⟩
    simp only [spec_RoundTo.l0]
    by_cases c : m < 4503599627370496
    · have c' : (m : Int) < 4503599627370496 := by omega
      rw [if_pos c']
      by_cases c2 : e > -1074
      · have hs' : s = false := by
          cases s with
          | false => rfl
          | true => have := hs rfl; omega
        subst hs'
        rw [if_pos c2, u64_id (by omega) (by omega), wrap64_id (by omega) (by omega)]
        have := ih k (m * 2) (e - 1) false (by omega) (by rw [Nat.mul_assoc, show 2 * 2 ^ n = 2 ^ (n + 1) by rw [Nat.pow_succ]; omega]; exact h1) (by omega) (by omega) (by omega) (by omega) (by omega) (fun h => by cases h)
        rw [show ((m * 2 : Nat) : Int) = (m : Int) * 2 by omega] at this
        rw [this]
        congr 2
        exact near_eq b 0 1 (by unfold st; simp; omega) (by omega)
      · rw [if_neg c2]
        exact fin k m e s (by omega) hm h0 (by omega) h3 (.inr (by omega))
    · have c' : ¬ (m : Int) < 4503599627370496 := by omega
      rw [if_neg c']
      exact fin k m e s (by omega) hm h0 (by omega) h3 (.inl (by omega))
/-- The reference's 'RoundTo'. -/
theorem round_ok {k : Nat} (hk : 9000 ≤ k) (b : Bool) (m : Nat) (e : Int) (more : Bool) (hm : m < 18446744073709551616) (h0 : -5000 ≤ e) (h1 : e ≤ 5000) :
    spec_RoundTo.f k b (m : Int) e more = some ((rnd b m e more : Nat) : Int) := by
  obtain ⟨k, rfl⟩ : ∃ q, k = q + 3 := ⟨k - 3, by omega⟩
  unfold spec_RoundTo.f
  rw [if_neg (by omega)]
  simp only [spec_RoundTo.j0]
  rw [if_neg (by omega)]
  have key : ∀ s : Bool, (s = true → 72057594037927936 ≤ m) → s = (decide (72057594037927936 ≤ m) && more) → spec_RoundTo.j2 (k + 1) b (m : Int) e s = some ((rnd b m e more : Nat) : Int) := by
    intro s hs he
    simp only [spec_RoundTo.j2]
    by_cases c : m = 0
    · subst c
      rw [if_pos (by rfl)]
      have := sign_ok (k := k) (by omega) b 0 (by omega)
      rw [show ((0 : Nat) : Int) = 0 from rfl] at this
      rw [this]
      simp only [Option.bind_some]
      unfold rnd
      rw [show 2 * 0 + (decide (72057594037927936 ≤ 0) && more).toNat = 0 by simp, nearest_zero]
    · rw [if_neg (by omega), rnd_st, ← he]
      obtain ⟨n, hn, hn2⟩ : ∃ n, 4503599627370496 ≤ m * 2 ^ n ∧ n ≤ 52 := ⟨52, by omega, by omega⟩
      exact l0_ok b n k m e s (by omega) hn hm (by omega) (by omega) h1 hn2 hs
  simp only [spec_RoundTo.j1]
  cases more
  · rw [if_neg Bool.false_ne_true]
    exact key false (fun h => by cases h) (by simp)
  · rw [if_pos rfl, pow_k (by omega) pow56]
    simp only [Option.bind_some]
    exact key _ (fun h => by have := of_decide_eq_true h; omega) (by rw [Bool.and_true, Bool.eq_iff_iff, decide_eq_true_eq, decide_eq_true_eq]; omega)
end Go.Proofs.Ytokhgodcamhibaa.Rnd
end
section
namespace Go.Proofs.Ytokhgodcamhibaa.Rnd
open Go.RowKit Go.Proofs.Ytokhgodcamhibaa.QFnExactDoBinary Go.Proofs.Ytokhgodcamhibaa.Num Go.Proofs.YtokhgodcamhibaaW.PrintWords Go.Proofs.YtokhgodcamhibaaW.PrintMore Go.Proofs.Ytokhgodcamhibaa.Fl Ieee
set_option linter.unusedVariables false
set_option linter.unusedSimpArgs false
theorem up_ok (k0 : Int) (s : Bool) : ∀ (d k m : Nat) (i : Int), 4503599627370496 ≤ m * 2 ^ d → m < 9007199254740992 → d + 100 ≤ k → -3000 + (d : Int) ≤ i → i ≤ 3000 →
    ∃ a, a ≤ d ∧ 4503599627370496 ≤ m * 2 ^ a ∧ m * 2 ^ a < 9007199254740992 ∧ spec_l05Up.l0 k k0 s (m : Int) i = some (k0, s, ((m * 2 ^ a : Nat) : Int), i - a)
  | 0, k, m, i, h1, h2, hk, h3, h4 => by
    obtain ⟨k, rfl⟩ : ∃ q, k = q + 1 := ⟨k - 1, by omega⟩
    rw [Nat.pow_zero, Nat.mul_one] at h1
    refine ⟨0, Nat.le_refl _, by rw [Nat.pow_zero, Nat.mul_one]; exact h1, by rw [Nat.pow_zero, Nat.mul_one]; exact h2, ?_⟩
    rw [spec_l05Up.l0, if_neg (by omega), Nat.pow_zero, Nat.mul_one, show i - ((0 : Nat) : Int) = i by omega]
  | d + 1, k, m, i, h1, h2, hk, h3, h4 => by
    obtain ⟨k, rfl⟩ : ∃ q, k = q + 1 := ⟨k - 1, by omega⟩
    by_cases c : m < 4503599627370496
    · have e1 : m * 2 * 2 ^ d = m * 2 ^ (d + 1) := by rw [Nat.mul_assoc, Nat.pow_succ, Nat.mul_comm 2]
      rw [← e1] at h1
      obtain ⟨a, ha, q1, q2, q3⟩ := up_ok k0 s d k (m * 2) (i - 1) h1 (by omega) (by omega) (by omega) (by omega)
      have e2 : m * 2 * 2 ^ a = m * 2 ^ (a + 1) := by rw [Nat.mul_assoc, Nat.pow_succ, Nat.mul_comm 2]
      rw [e2] at q1 q2 q3
      refine ⟨a + 1, by omega, q1, q2, ?_⟩
      rw [spec_l05Up.l0, if_pos (by omega), u64_id (by omega) (by omega), wrap64_id (by omega) (by omega)]
      rw [show ((m * 2 : Nat) : Int) = (m : Int) * 2 by omega] at q3
      rw [q3, show i - 1 - (a : Int) = i - ((a + 1 : Nat) : Int) by omega]
    · refine ⟨0, by omega, by rw [Nat.pow_zero, Nat.mul_one]; omega, by rw [Nat.pow_zero, Nat.mul_one]; exact h2, ?_⟩
      rw [spec_l05Up.l0, if_neg (by omega), Nat.pow_zero, Nat.mul_one, show i - ((0 : Nat) : Int) = i by omega]
end Go.Proofs.Ytokhgodcamhibaa.Rnd
end
section
namespace Go.Proofs.Ytokhgodcamhibaa.Law
open Go.RowKit Go.Proofs.YtokhgodcamhibaaW.PrintWords Go.Proofs.YtokhgodcamhibaaW.PrintMore
set_option linter.unusedVariables false
/-- From w on only new memory was written; the boxes of the list hold what it says. -/
structure At (w W : World) (L : List (Nat × Array Value × TypeId)) : Prop where
  below : Below w.heap.size w W
  box : ∀ b ∈ L, W.heap[b.1]? = some (.cells b.2.1 b.2.2 (0, 0))
theorem At.step {w W W2 : World} {L : List (Nat × Array Value × TypeId)} (h : At w W L) (hb : Below W.heap.size W W2) : At w W2 L := ⟨below_step h.below hb, fun b hm => blk_below (h.box b hm) hb⟩
theorem At.drew {w W : World} {L : List (Nat × Array Value × TypeId)} (h : At w W L) : At w W.drew L := ⟨below_drew1 h.below, fun b hm => h.box b hm⟩
theorem At.start (w : World) : At w w [] := ⟨Below.refl _ _, fun b hm => by cases hm⟩
theorem At.alloc {w W : World} {L : List (Nat × Array Value × TypeId)} (h : At w W L) (cs : Array Value) (t : TypeId) : At w (W.alloc (.cells cs t)) ((W.heap.size, cs, t) :: L) := by
  refine ⟨below_alloc h.below _, fun b hm => ?_⟩
  rcases List.mem_cons.1 hm with rfl | hm
  · exact blk_new W _
  · exact blk_alloc (h.box b hm) _
theorem At.cell {w W : World} {L : List (Nat × Array Value × TypeId)} (h : At w W L) {g : Nat} {cs : Array Value} {t : TypeId} (hm : (g, cs, t) ∈ L) : ∀ o, W.cell? ⟨g, o, none⟩ = cs[o]? := fun o => blk_cell (h.box _ hm) o
theorem At.free {w W : World} {L : List (Nat × Array Value × TypeId)} (h : At w W L) {g : Nat} {cs : Array Value} {t : TypeId} (hm : (g, cs, t) ∈ L) : ∀ o, W.frozen? ⟨g, o, none⟩ = false := fun o => blk_frozen (h.box _ hm) o
theorem At.reads {α : Type} {d : Kd α} {w W : World} {L : List (Nat × Array Value × TypeId)} {A : Option Addr} {n : Nat} {xs : List α} (h : At w W L) (hr : d.C w A n xs) : d.C W A n xs := Kd.C_below hr h.below
theorem At.mono {w W : World} {L L' : List (Nat × Array Value × TypeId)} (h : At w W L) (hs : ∀ b ∈ L', b ∈ L) : At w W L' := ⟨h.below, fun b hm => h.box b (hs b hm)⟩
end Go.Proofs.Ytokhgodcamhibaa.Law
end
section
namespace Go.Proofs.Ytokhgodcamhibaa.Float
set_option linter.unusedVariables false
set_option linter.unusedSimpArgs false
open Ieee
/-- The magnitude of a rung, in units of the least number. -/
def val (r : Nat) : Nat := if r < 4503599627370496 then r else (4503599627370496 + r % 4503599627370496) * 2 ^ (r / 4503599627370496 - 1)
theorem val_succ (r : Nat) : val r < val (r + 1) := by
  unfold val
  by_cases h : r < 4503599627370496
  · rw [if_pos h]
    by_cases h1 : r + 1 < 4503599627370496
    · rw [if_pos h1]
      omega
    · rw [if_neg h1]
      have : r + 1 = 4503599627370496 := by omega
      rw [this]
      simp
      omega
  · rw [if_neg h, if_neg (by omega)]
    have hq : 0 < r / 4503599627370496 := by omega
    generalize hqe : r / 4503599627370496 = q at hq
    generalize hfe : r % 4503599627370496 = f
    have hf : f < 4503599627370496 := by omega
    have hr : r = 4503599627370496 * q + f := by omega
    obtain ⟨p, rfl⟩ : ∃ p, q = p + 1 := ⟨q - 1, by omega⟩
    have hp : 0 < 2 ^ p := Nat.two_pow_pos _
    by_cases h1 : f + 1 < 4503599627370496
    · have e1 : (r + 1) / 4503599627370496 = p + 1 := by omega
      have e2 : (r + 1) % 4503599627370496 = f + 1 := by omega
      rw [e1, e2]
      simp only [Nat.add_sub_cancel]
      exact Nat.mul_lt_mul_of_pos_right (by omega) hp
    · have e1 : (r + 1) / 4503599627370496 = p + 2 := by omega
      have e2 : (r + 1) % 4503599627370496 = 0 := by omega
      rw [e1, e2, show p + 2 - 1 = p + 1 by omega, Nat.pow_succ]
      simp only [Nat.add_sub_cancel, Nat.add_zero]
      rw [show 4503599627370496 * (2 ^ p * 2) = 9007199254740992 * 2 ^ p by rw [Nat.mul_comm (2 ^ p) 2, ← Nat.mul_assoc]]
      exact Nat.mul_lt_mul_of_pos_right (by omega) hp
theorem val_lt {r s : Nat} (h : r < s) : val r < val s := by
  induction s with
  | zero => omega
  | succ s ih =>
    rcases Nat.lt_succ_iff_lt_or_eq.1 h with h | rfl
    · exact Nat.lt_trans (ih h) (val_succ s)
    · exact val_succ r
theorem val_zero : val 0 = 0 := by decide
def sg (s : Bool) (n : Nat) : Int := if s then -(n : Int) else n
theorem sg_lt (s t : Bool) (r q : Nat) : sg s (val r) < sg t (val q) ↔ sg s r < sg t q := by
  have h0 := val_zero
  have hr : 0 < r → 0 < val r := fun h => by have := val_lt h; omega
  have hq : 0 < q → 0 < val q := fun h => by have := val_lt h; omega
  have h1 : r < q → val r < val q := val_lt
  have h2 : q < r → val q < val r := val_lt
  have h3 : r = q → val r = val q := fun h => by rw [h]
  have h4 : r = 0 → val r = 0 := fun h => by rw [h]; exact h0
  have h5 : q = 0 → val q = 0 := fun h => by rw [h]; exact h0
  unfold sg
  cases s <;> cases t <;> simp only [Bool.false_eq_true, if_false, if_true] <;> omega
theorem sg_eq (s t : Bool) (r q : Nat) : sg s (val r) = sg t (val q) ↔ sg s r = sg t q := by
  have h0 := val_zero
  have hr : 0 < r → 0 < val r := fun h => by have := val_lt h; omega
  have hq : 0 < q → 0 < val q := fun h => by have := val_lt h; omega
  have h1 : r < q → val r < val q := val_lt
  have h2 : q < r → val q < val r := val_lt
  have h3 : r = q → val r = val q := fun h => by rw [h]
  have h4 : r = 0 → val r = 0 := fun h => by rw [h]; exact h0
  have h5 : q = 0 → val q = 0 := fun h => by rw [h]; exact h0
  unfold sg
  cases s <;> cases t <;> simp only [Bool.false_eq_true, if_false, if_true] <;> omega
theorem cmp_congr {a b c d : Int} (h1 : a < b ↔ c < d) (h2 : a = b ↔ c = d) : compare a b = compare c d := by
  show compareOfLessAndEq a b = compareOfLessAndEq c d
  unfold compareOfLessAndEq
  by_cases e1 : a < b
  · rw [if_pos e1, if_pos (h1.1 e1)]
  · rw [if_neg e1, if_neg (fun h => e1 (h1.2 h))]
    by_cases e2 : a = b
    · rw [if_pos e2, if_pos (h2.1 e2)]
    · rw [if_neg e2, if_neg (fun h => e2 (h2.2 h))]
theorem signed_sg (s : Bool) (m up : Nat) : signed s m up = sg s (m * 2 ^ up) := by
  unfold signed sg
  rw [Nat.shiftLeft_eq]
theorem sg_mul (s : Bool) (n c : Nat) : sg s (n * c) = sg s n * (c : Int) := by
  unfold sg
  cases s
  · simp
  · simp [Int.neg_mul]
theorem cmp_scale (a b : Int) (c : Nat) (hc : 0 < c) : compare (a * (c : Int)) (b * (c : Int)) = compare a b := by
  have h : (0 : Int) < (c : Int) := by omega
  exact cmp_congr (Int.mul_lt_mul_right h) ⟨fun e => Int.eq_of_mul_eq_mul_right (by omega) e, fun e => by rw [e]⟩
/-- What a word that stands for a number stands for. -/
theorem read_number {a : Nat} (h : a % 9223372036854775808 < 9218868437227405312) :
    ∃ m p, double.read a = .number (a / 9223372036854775808 % 2 == 1) m p ∧ -1074 ≤ p ∧ val (a % 9223372036854775808) = m * 2 ^ (p + 1074).toNat := by
  have e1 : double.signWeight = 9223372036854775808 := by decide
  have e2 : double.binade = 4503599627370496 := by decide
  have e3 : double.infRung = 9218868437227405312 := by decide
  have e4 : double.leastPlace = -1074 := by decide
  unfold Format.read
  simp only [e1, e2, e3, e4]
  generalize hr : a % 9223372036854775808 = r at h
  by_cases h1 : r < 4503599627370496
  · rw [if_pos h1]
    exact ⟨_, _, rfl, by omega, by unfold val; rw [if_pos h1]; simp⟩
  · rw [if_neg h1, if_pos h]
    refine ⟨_, _, rfl, by omega, ?_⟩
    unfold val
    rw [if_neg h1]
    congr 2
    omega
theorem read_inf {a : Nat} (h : a % 9223372036854775808 = 9218868437227405312) : double.read a = .infinity (a / 9223372036854775808 % 2 == 1) := by
  have e1 : double.signWeight = 9223372036854775808 := by decide
  have e2 : double.binade = 4503599627370496 := by decide
  have e3 : double.infRung = 9218868437227405312 := by decide
  unfold Format.read
  simp only [e1, e2, e3, h]
  rw [if_neg (by omega), if_neg (by omega), if_pos trivial]
theorem read_nan {a : Nat} (h : a % 9223372036854775808 > 9218868437227405312) : double.read a = .nan (a / 9223372036854775808 % 2 == 1) (a % 9223372036854775808 - 9218868437227405312) := by
  have e1 : double.signWeight = 9223372036854775808 := by decide
  have e2 : double.binade = 4503599627370496 := by decide
  have e3 : double.infRung = 9218868437227405312 := by decide
  unfold Format.read
  simp only [e1, e2, e3]
  rw [if_neg (by omega), if_neg (by omega), if_neg (by omega)]
/-- The key of a word: whole numbers in the order of what the words stand for. -/
def keyN (a : Nat) : Int := sg (a / 9223372036854775808 % 2 == 1) (a % 9223372036854775808)
def nanN (a : Nat) : Bool := decide (a % 9223372036854775808 > 9218868437227405312)
theorem order_nan_left {a : Nat} (b : Nat) (h : nanN a = true) : double.order a b = none := by
  unfold Format.order
  rw [read_nan (by simpa [nanN] using h)]
  rfl
theorem order_key {a b : Nat} (ha : nanN a = false) (hb : nanN b = false) : double.order a b = some (compare (keyN a) (keyN b)) := by
  have ha' : a % 9223372036854775808 ≤ 9218868437227405312 := by simpa [nanN] using ha
  have hb' : b % 9223372036854775808 ≤ 9218868437227405312 := by simpa [nanN] using hb
  unfold Format.order keyN
  generalize hs : (a / 9223372036854775808 % 2 == 1) = s
  generalize ht : (b / 9223372036854775808 % 2 == 1) = t
  by_cases h1 : a % 9223372036854775808 = 9218868437227405312
  · by_cases h2 : b % 9223372036854775808 = 9218868437227405312
    · rw [read_inf h1, read_inf h2, h1, h2, hs, ht]
      unfold Datum.order
      cases s <;> cases t <;> decide
    · obtain ⟨m, p, e, hp, hv⟩ := read_number (a := b) (by omega)
      rw [read_inf h1, e, h1, hs, ht]
      show some (if s then Ordering.lt else Ordering.gt) = _
      congr 1
      show _ = compareOfLessAndEq _ _
      unfold compareOfLessAndEq sg
      cases s <;> cases t <;> simp only [Bool.false_eq_true, if_false, if_true]
      · rw [if_neg (by omega), if_neg (by omega)]
      · rw [if_neg (by omega), if_neg (by omega)]
      · rw [if_pos (by omega)]
      · rw [if_pos (by omega)]
  · obtain ⟨m, p, e, hp, hv⟩ := read_number (a := a) (by omega)
    by_cases h2 : b % 9223372036854775808 = 9218868437227405312
    · rw [read_inf h2, e, h2, hs, ht]
      show some (if t then Ordering.gt else Ordering.lt) = _
      congr 1
      show _ = compareOfLessAndEq _ _
      unfold compareOfLessAndEq sg
      cases s <;> cases t <;> simp only [Bool.false_eq_true, if_false, if_true]
      · rw [if_pos (by omega)]
      · rw [if_neg (by omega), if_neg (by omega)]
      · rw [if_pos (by omega)]
      · rw [if_neg (by omega), if_neg (by omega)]
    · obtain ⟨n, q, e', hq, hv'⟩ := read_number (a := b) (by omega)
      rw [e, e', hs, ht]
      show some (compare (signed s m (p - min p q).toNat) (signed t n (q - min p q).toNat)) = _
      congr 1
      rw [← cmp_congr (sg_lt s t _ _) (sg_eq s t _ _), hv, hv', signed_sg, signed_sg]
      have hc : 0 < 2 ^ (min p q + 1074).toNat := Nat.two_pow_pos _
      rw [← cmp_scale _ _ (2 ^ (min p q + 1074).toNat) hc, ← sg_mul, ← sg_mul, Nat.mul_assoc, Nat.mul_assoc, ← Nat.pow_add, ← Nat.pow_add]
      rw [show (p - min p q).toNat + (min p q + 1074).toNat = (p + 1074).toNat by omega, show (q - min p q).toNat + (min p q + 1074).toNat = (q + 1074).toNat by omega]
end Go.Proofs.Ytokhgodcamhibaa.Float
end
section
namespace Go.Proofs.Ytokhgodcamhibaa.FlI
open Go.RowKit Go.Proofs.YtokhgodcamhibaaW.PrintWords Go.Proofs.YtokhgodcamhibaaW.PrintLast Go.Proofs.YtokhgodcamhibaaW.PrintMore Go.Proofs.Ytokhgodcamhibaa.Law Go.Proofs.Ytokhgodcamhibaa.Fl Ieee
set_option linter.unusedVariables false
set_option linter.unusedSimpArgs false
theorem frombits (x : Int) (w : World) : (callFunc 67 #[.int .u64 x]).run Try.prog w = .ok (.value (.float .f64 x.toNat)) w := by kernel_rfl
theorem bits (x : Nat) (w : World) : (callFunc 66 #[.float .f64 x]).run Try.prog w = .ok (.value (.int .u64 x)) w := by kernel_rfl
theorem real64 (x : Int) (w : World) : Calls Try.prog 33 #[.int .u64 x] w fun e w' => e = .returned (.float .f64 x.toNat) ∧ w' = w := by
  have hfb := frombits x
  go_enter Try.func33, Try.ntmps33
  go_wp2
  go_ret
  exact ⟨rfl, rfl⟩
/-- A double's bits, of all NaNs the one. -/
def wordF (f : Nat) : Int := if Float.nanN f = true then 9221120237041090560 else (f : Int)
theorem order_self {f : Nat} (h : Float.nanN f = false) : double.order f f = some .eq := by
  rw [Float.order_key h h]
  congr 1
  show compareOfLessAndEq _ _ = _
  unfold compareOfLessAndEq
  rw [if_neg (by omega), if_pos rfl]
theorem word (f : Nat) (w : World) : Calls Try.prog 32 #[.float .f64 f] w fun e w' => e = .returned (.int .u64 (wordF f)) ∧ w' = w := by
  have hb := bits f
  cases h : Float.nanN f
  · have ho : (FloatKind.f64.format.order f f != some Ordering.eq) = false := by rw [show FloatKind.f64.format.order f f = some .eq from order_self h]; rfl
    have hw : wordF f = (f : Int) := by unfold wordF; rw [h]; rfl
    have HW := Aside0.mk hw
    clear hw h
    go_enter Try.func32, Try.ntmps32
    go_wp2
    go_ret
    exact ⟨by rw [HW.out]; rfl, rfl⟩
  · have ho : (FloatKind.f64.format.order f f != some Ordering.eq) = true := by rw [show FloatKind.f64.format.order f f = none from Float.order_nan_left f h]; rfl
    have hw : wordF f = 9221120237041090560 := by unfold wordF; rw [h]; rfl
    have HW := Aside0.mk hw
    clear hw h
    go_enter Try.func32, Try.ntmps32
    go_wp2
    go_ret
    exact ⟨by rw [HW.out]; rfl, rfl⟩
theorem nan_word (b : Bool) {r : Nat} (h : r ≤ 9218868437227405312) : Float.nanN (double.word b r) = false := by
  unfold Float.nanN
  rw [word_eq, decide_eq_false_iff_not]
  cases b <;> simp <;> omega
theorem nan_near (b : Bool) (m : Nat) (p : Int) : Float.nanN (double.nearest b m p) = false := by
  unfold Format.nearest
  split
  · exact nan_word b (by omega)
  · exact nan_word b (by rw [c_inf]; exact Nat.min_le_right _ _)
theorem nan_write {d : Datum} (h : d.isNaN = false) : Float.nanN (double.write d) = false := by
  cases d with
  | number s m p => exact nan_near s m p
  | infinity s => exact nan_word s (by rw [c_inf]; exact Nat.le_refl _)
  | nan s f => cases h
theorem sum_nan {a b d : Datum} (h : Datum.sum a b = some d) : d.isNaN = false := by
  cases a <;> cases b <;> simp only [Datum.sum] at h <;> first | (cases h; done) | (cases h; rfl) | (split at h <;> first | (cases h; rfl) | cases h)
theorem prod_nan {a b d : Datum} (h : Datum.product a b = some d) : d.isNaN = false := by
  cases a <;> cases b <;> simp only [Datum.product] at h <;> first | (cases h; done) | (cases h; rfl) | (split at h <;> first | (cases h; rfl) | cases h)
theorem quot_nan {n : Nat} {a b d : Datum} (h : Datum.quotient n a b = some d) : d.isNaN = false := by
  cases a <;> cases b <;> simp only [Datum.quotient] at h <;> first | (cases h; done) | (cases h; rfl) | (split at h <;> first | (cases h; rfl) | (split at h <;> first | (cases h; rfl) | cases h))
theorem map_nan {o : Option Datum} {r : Nat} (ho : ∀ d, o = some d → d.isNaN = false) (h : o.map double.write = some r) : Float.nanN r = false := by
  cases o with
  | none => cases h
  | some d => cases h; exact nan_write (ho d rfl)
theorem wordF_some {r : Nat} (h : Float.nanN r = false) : wordF r = opW (some r) := by unfold wordF opW; rw [h]; rfl
theorem wordF_nan {r : Nat} (h : Float.nanN r = true) : wordF r = opW none := by unfold wordF opW; rw [h]; rfl
/-- An operation on doubles: its bits, or those of a NaN. -/
theorem arith_run (op : BinOp) (hop : op = .add ∨ op = .sub ∨ op = .mul ∨ op = .quo) (t : TypeId) (x y : Nat) (hn : ∀ r, floatBits op .f64 x y = some r → Float.nanN r = false) (w : World) :
    ∃ r w1, (binOp op t (.float .f64 x) (.float .f64 y)).run Try.prog w = .ok (.float .f64 r) w1 ∧ wordF r = opW (floatBits op .f64 x y) ∧ (w1 = w ∨ w1 = w.drew) := by
  cases h : floatBits op .f64 x y with
  | some r => exact ⟨r, w, run_float_arith w op t .f64 x y r h, wordF_some (hn r h), .inl rfl⟩
  | none =>
    refine ⟨Question.cut (.nanBits .f64 x y) (w.tape w.drawn (.nanBits .f64 x y)), w.drew, ?_, wordF_nan ?_, .inr rfl⟩
    · unfold floatBits at h
      rcases hop with rfl | rfl | rfl | rfl <;> (simp only at h; simp [binOp, Op.floatArith, h, Question.forced])
    · unfold Float.nanN Question.cut
      simp only
      generalize w.tape w.drawn _ = t
      rw [decide_eq_true_eq, show (2 : Nat) ^ 63 = 9223372036854775808 from by decide, show (2 : Nat) ^ 52 - 1 = 4503599627370495 from by decide]
      have h1 : t / 2 % 4503599627370495 < 4503599627370495 := Nat.mod_lt _ (by decide)
      generalize t / 2 % 4503599627370495 = u at h1
      rcases Nat.mod_two_eq_zero_or_one t with q | q <;> rw [q] <;> omega
theorem add_nan {x y r : Nat} (h : floatBits .add .f64 x y = some r) : Float.nanN r = false := map_nan (fun _ => sum_nan) (show (Datum.sum (double.read x) (double.read y)).map double.write = some r from h)
theorem mul_nan {x y r : Nat} (h : floatBits .mul .f64 x y = some r) : Float.nanN r = false := map_nan (fun _ => prod_nan) (show (Datum.product (double.read x) (double.read y)).map double.write = some r from h)
theorem div_nan {x y r : Nat} (h : floatBits .quo .f64 x y = some r) : Float.nanN r = false := map_nan (fun _ => quot_nan) (show (Datum.quotient 54 (double.read x) (double.read y)).map double.write = some r from h)
theorem add (x y : Int) (w : World) : Calls Try.prog 75 #[.int .u64 x, .int .u64 y] w fun e w' => e = .returned (.int .u64 (opW (double.add x.toNat y.toNat))) ∧ Drawn0 w w' := by
  obtain ⟨r, w1, hrun, hr, hw⟩ := arith_run .add (by simp) 53 x.toNat y.toNat (fun _ => add_nan) w
  have HR := Aside0.mk hr; have HW := Aside0.mk hw
  clear hr hw
  go_enter Try.func75, Try.ntmps75
  go_wp2_with fail
  refine (real64 _ _).mono ?_
  rintro e v ⟨rfl, rfl⟩
  go_wp2_with fail
  refine (real64 _ _).mono ?_
  rintro e v2 ⟨rfl, rfl⟩
  go_wp2_with (simp only [hrun])
  refine (word _ _).mono ?_
  rintro e v3 ⟨rfl, rfl⟩
  go_wp2
  go_ret
  exact ⟨by rw [HR.out]; rfl, by rcases HW.out with h | h <;> rw [h]; exact Drawn0.refl _; exact ⟨⟨1, rfl⟩⟩⟩
theorem mul (x y : Int) (w : World) : Calls Try.prog 77 #[.int .u64 x, .int .u64 y] w fun e w' => e = .returned (.int .u64 (opW (double.mul x.toNat y.toNat))) ∧ Drawn0 w w' := by
  obtain ⟨r, w1, hrun, hr, hw⟩ := arith_run .mul (by simp) 53 x.toNat y.toNat (fun _ => mul_nan) w
  have HR := Aside0.mk hr; have HW := Aside0.mk hw
  clear hr hw
  go_enter Try.func77, Try.ntmps77
  go_wp2_with fail
  refine (real64 _ _).mono ?_
  rintro e v ⟨rfl, rfl⟩
  go_wp2_with fail
  refine (real64 _ _).mono ?_
  rintro e v2 ⟨rfl, rfl⟩
  go_wp2_with (simp only [hrun])
  refine (word _ _).mono ?_
  rintro e v3 ⟨rfl, rfl⟩
  go_wp2
  go_ret
  exact ⟨by rw [HR.out]; rfl, by rcases HW.out with h | h <;> rw [h]; exact Drawn0.refl _; exact ⟨⟨1, rfl⟩⟩⟩
theorem div (x y : Int) (w : World) : Calls Try.prog 9 #[.int .u64 x, .int .u64 y] w fun e w' => e = .returned (.int .u64 (opW (double.div x.toNat y.toNat))) ∧ Drawn0 w w' := by
  obtain ⟨r, w1, hrun, hr, hw⟩ := arith_run .quo (by simp) 53 x.toNat y.toNat (fun _ => div_nan) w
  have HR := Aside0.mk hr; have HW := Aside0.mk hw
  clear hr hw
  go_enter Try.func9, Try.ntmps9
  go_wp2_with fail
  refine (real64 _ _).mono ?_
  rintro e v ⟨rfl, rfl⟩
  go_wp2_with fail
  refine (real64 _ _).mono ?_
  rintro e v2 ⟨rfl, rfl⟩
  go_wp2_with (simp only [hrun])
  refine (word _ _).mono ?_
  rintro e v3 ⟨rfl, rfl⟩
  go_wp2
  go_ret
  exact ⟨by rw [HR.out]; rfl, by rcases HW.out with h | h <;> rw [h]; exact Drawn0.refl _; exact ⟨⟨1, rfl⟩⟩⟩
end Go.Proofs.Ytokhgodcamhibaa.FlI
end
section
namespace Go.Proofs.Ytokhgodcamhibaa.FlI
open Go.RowKit Go.Proofs.YtokhgodcamhibaaW.PrintWords Go.Proofs.YtokhgodcamhibaaW.PrintLast Go.Proofs.YtokhgodcamhibaaW.PrintMore Go.Proofs.Ytokhgodcamhibaa.Law Go.Proofs.Ytokhgodcamhibaa.Fl Ieee
set_option linter.unusedVariables false
set_option linter.unusedSimpArgs false
theorem bit63 {a : Nat} (h : a < 18446744073709551616) : Go.bits .andNot .u64 (a : Int) 9223372036854775808 = ((a % 9223372036854775808 : Nat) : Int) := by
  have := u64_andNot_nat a 9223372036854775808 h (by decide)
  rw [show ((9223372036854775808 : Nat) : Int) = 9223372036854775808 from rfl] at this
  rw [this, show 18446744073709551615 - 9223372036854775808 = 2 ^ 63 - 1 from by decide, Nat.and_two_pow_sub_one_eq_mod]
theorem bitEx {a : Nat} (h : a < 9223372036854775808) : Go.bits .andNot .u64 (a : Int) 9218868437227405312 = ((fr a : Nat) : Int) := by
  have := u64_andNot_nat a 9218868437227405312 (by omega) (by decide)
  rw [show ((9218868437227405312 : Nat) : Int) = 9218868437227405312 from rfl] at this
  rw [this, show 18446744073709551615 - 9218868437227405312 = 2 ^ 63 ||| (2 ^ 52 - 1) from by decide, Nat.and_or_distrib_left, Nat.and_two_pow_sub_one_eq_mod]
  have z : a &&& 2 ^ 63 = 0 := Nat.eq_of_testBit_eq fun i => by
    rw [Nat.testBit_and, Nat.testBit_two_pow, Nat.zero_testBit]
    by_cases c : 63 = i
    · rw [← c, Nat.testBit_lt_two_pow (show a < 2 ^ 63 from h), Bool.false_and]
    · rw [decide_eq_false c, Bool.and_false]
  rw [z, Nat.zero_or]
  rfl
theorem bitOr {e f : Nat} (h : f < 4503599627370496) (he : e < 2048) : Go.bits .or .u64 (f : Int) ((e * 4503599627370496 : Nat) : Int) = ((e * 4503599627370496 + f : Nat) : Int) := by
  rw [u64_or (f : Int) ((e * 4503599627370496 : Nat) : Int) (by omega) (by omega) (by omega) (by omega), Nat.or_comm, Int.toNat_natCast, Int.toNat_natCast, nat_join 52 (e * 4503599627370496) f (by omega) (by omega)]
theorem ord {x y : Nat} (hx : Float.nanN x = false) (hy : Float.nanN y = false) : FloatKind.f64.format.order x y = some (compare (Float.keyN x) (Float.keyN y)) := Float.order_key hx hy
theorem pos_nan {x : Nat} (h : Pos x) : Float.nanN x = false := by unfold Pos at h; unfold Float.nanN; rw [decide_eq_false_iff_not]; omega
theorem key_low {x : Nat} (h : x < 9223372036854775808) : Float.keyN x = (x : Int) := by
  unfold Float.keyN Float.sg
  rw [show (x / 9223372036854775808 % 2 == 1) = false by rw [beq_eq_false_iff_ne]; omega]
  simp only [Bool.false_eq_true, if_false]
  omega
theorem cmp_lt {a b : Int} : (compare a b == Ordering.lt) = decide (a < b) := by
  show (compareOfLessAndEq a b == Ordering.lt) = _
  unfold compareOfLessAndEq
  by_cases h : a < b
  · rw [if_pos h, decide_eq_true h]; rfl
  · rw [if_neg h, decide_eq_false h]
    by_cases h2 : a = b
    · rw [if_pos h2]; rfl
    · rw [if_neg h2]; rfl
theorem cmp_eq {a b : Int} : (compare a b == Ordering.eq) = decide (a = b) := by
  show (compareOfLessAndEq a b == Ordering.eq) = _
  unfold compareOfLessAndEq
  by_cases h : a < b
  · rw [if_pos h, decide_eq_false (by omega)]; rfl
  · rw [if_neg h]
    by_cases h2 : a = b
    · rw [if_pos h2, decide_eq_true h2]; rfl
    · rw [if_neg h2, decide_eq_false h2]; rfl
theorem cmp_gt {a b : Int} : (compare a b == Ordering.gt) = decide (b < a) := by
  show (compareOfLessAndEq a b == Ordering.gt) = _
  unfold compareOfLessAndEq
  by_cases h : a < b
  · rw [if_pos h, decide_eq_false (by omega)]; rfl
  · rw [if_neg h]
    by_cases h2 : a = b
    · rw [if_pos h2, decide_eq_false (by omega)]; rfl
    · rw [if_neg h2, decide_eq_true (by omega)]; rfl
theorem some_cmp (a b : Int) (o : Ordering) : (some (compare a b) == some o) = (compare a b == o) := rfl
theorem o_lt {x y : Nat} (hx : x ≤ 9218868437227405312) (hy : y ≤ 9218868437227405312) : (FloatKind.f64.format.order x y == some Ordering.lt) = decide (x < y) := by
  rw [ord (by unfold Float.nanN; rw [decide_eq_false_iff_not]; omega) (by unfold Float.nanN; rw [decide_eq_false_iff_not]; omega), key_low (by omega), key_low (by omega), some_cmp, cmp_lt, decide_eq_decide]; omega
theorem o_eq {x y : Nat} (hx : x ≤ 9218868437227405312) (hy : y ≤ 9218868437227405312) : (FloatKind.f64.format.order x y == some Ordering.eq) = decide (x = y) := by
  rw [ord (by unfold Float.nanN; rw [decide_eq_false_iff_not]; omega) (by unfold Float.nanN; rw [decide_eq_false_iff_not]; omega), key_low (by omega), key_low (by omega), some_cmp, cmp_eq, decide_eq_decide]; omega
theorem o_gt {x y : Nat} (hx : x ≤ 9218868437227405312) (hy : y ≤ 9218868437227405312) : (FloatKind.f64.format.order x y == some Ordering.gt) = decide (y < x) := by
  rw [ord (by unfold Float.nanN; rw [decide_eq_false_iff_not]; omega) (by unfold Float.nanN; rw [decide_eq_false_iff_not]; omega), key_low (by omega), key_low (by omega), some_cmp, cmp_gt, decide_eq_decide]; omega
theorem abs (x : Nat) (hx : x < 18446744073709551616) (w : World) : Calls Try.prog 82 #[.float .f64 x] w fun e w' => e = .returned (.float .f64 (x % 9223372036854775808)) ∧ w' = w := by
  have hb := bits x
  have h63 := bit63 hx
  obtain ⟨r, hr⟩ : ∃ r, r = x % 9223372036854775808 := ⟨_, rfl⟩
  rw [← hr] at h63 ⊢
  have hfb := frombits (r : Int)
  rw [Int.toNat_natCast] at hfb
  clear hr
  go_enter Try.func82, Try.ntmps82
  go_wp2
  go_ret
  exact ⟨rfl, rfl⟩
theorem isInf (x : Nat) (hx : x < 18446744073709551616) (w : World) : Calls Try.prog 79 #[.float .f64 x, .int .i64 0] w fun e w' => e = .returned (.bool (decide (x % 9223372036854775808 = 9218868437227405312))) ∧ w' = w := by
  have hg : (FloatKind.f64.format.order (x % 9223372036854775808) 9218868437227405311 == some Ordering.gt) = decide (x % 9223372036854775808 = 9218868437227405312) := by
    by_cases hn : x % 9223372036854775808 ≤ 9218868437227405312
    · rw [o_gt hn (show 9218868437227405311 ≤ 9218868437227405312 by omega), decide_eq_decide]; omega
    · rw [show FloatKind.f64.format.order (x % 9223372036854775808) 9218868437227405311 = none from Float.order_nan_left _ (by unfold Float.nanN; rw [decide_eq_true_eq]; omega), decide_eq_false (by omega)]; rfl
  go_enter Try.func79, Try.ntmps79
  go_wp2_with fail
  refine (abs x hx _).mono ?_
  rintro e v ⟨rfl, rfl⟩
  go_wp2
  go_ret
  exact ⟨by rw [← hg]; rfl, rfl⟩
theorem isNaN (x : Nat) (w : World) : Calls Try.prog 80 #[.float .f64 x] w fun e w' => e = .returned (.bool (Float.nanN x)) ∧ w' = w := by
  have ho : (FloatKind.f64.format.order x x != some Ordering.eq) = Float.nanN x := by
    cases h : Float.nanN x
    · rw [show FloatKind.f64.format.order x x = some .eq from order_self h]; rfl
    · rw [show FloatKind.f64.format.order x x = none from Float.order_nan_left x h]; rfl
  go_enter Try.func80, Try.ntmps80
  go_wp2
  go_ret
  exact ⟨by rw [← ho]; rfl, rfl⟩
theorem ord_zero {y : Nat} (hy : y < 18446744073709551616) : (FloatKind.f64.format.order y 0 == some Ordering.eq) = decide (y % 9223372036854775808 = 0) := by
  by_cases hn : y % 9223372036854775808 ≤ 9218868437227405312
  · rw [ord (by unfold Float.nanN; rw [decide_eq_false_iff_not]; omega) (by decide), some_cmp, cmp_eq, decide_eq_decide, show Float.keyN 0 = 0 from by decide]
    unfold Float.keyN Float.sg
    split <;> omega
  · rw [show FloatKind.f64.format.order y 0 = none from Float.order_nan_left _ (by unfold Float.nanN; rw [decide_eq_true_eq]; omega), decide_eq_false (by omega)]; rfl
theorem ord_neg {x : Nat} (hx : x < 18446744073709551616) (hn : Float.nanN x = false) : (FloatKind.f64.format.order x 0 == some Ordering.lt) = decide (9223372036854775808 < x) := by
  rw [ord hn (by decide), some_cmp, cmp_lt, decide_eq_decide, show Float.keyN 0 = 0 from by decide]
  unfold Float.keyN Float.sg
  by_cases c : x < 9223372036854775808
  · rw [show (x / 9223372036854775808 % 2 == 1) = false by rw [beq_eq_false_iff_ne]; omega]
    simp only [Bool.false_eq_true, if_false]; omega
  · rw [show (x / 9223372036854775808 % 2 == 1) = true by rw [beq_iff_eq]; omega]
    simp only [if_true]; omega
end Go.Proofs.Ytokhgodcamhibaa.FlI
end
section
namespace Go.Proofs.Ytokhgodcamhibaa.FlI
open Go.RowKit Go.Proofs.YtokhgodcamhibaaW.PrintWords Go.Proofs.YtokhgodcamhibaaW.PrintLast Go.Proofs.YtokhgodcamhibaaW.PrintMore Go.Proofs.Ytokhgodcamhibaa.Law Go.Proofs.Ytokhgodcamhibaa.Fl Go.Proofs.Ytokhgodcamhibaa.Num Ieee
set_option linter.unusedVariables false
set_option linter.unusedSimpArgs false
theorem near_valK (b : Bool) {M : Nat} {p : Int} {x : Nat} (hx : Pos x) (K : Nat) (hK : 1074 ≤ K) (hp : 0 ≤ p + K) (h : M * 2 ^ (p + K).toNat = V x * 2 ^ (K - 1074)) : double.nearest b M p = double.word b x := by
  have h2 := place_ge x
  rw [near_eq b (N := mant x) (q := place x) (p + K).toNat ((place x + 1074).toNat + (K - 1074)) (by rw [h]; unfold V; rw [Nat.mul_assoc, ← Nat.pow_add]) (by omega), nearest_word, hx.self]
/-- A word out of an exponent field and a fraction. -/
theorem mk_word {e f : Nat} (h0 : e < 2047) (h1 : f < 4503599627370496) : Pos (e * 4503599627370496 + f) ∧ ex (e * 4503599627370496 + f) = e ∧ fr (e * 4503599627370496 + f) = f := by
  refine ⟨?_, ?_, ?_⟩
  · unfold Pos; omega
  · unfold ex; omega
  · unfold fr; omega
theorem V_word {e f : Nat} (h0 : 0 < e) (h2 : e < 2047) (h1 : f < 4503599627370496) : V (e * 4503599627370496 + f) = (4503599627370496 + f) * 2 ^ (e - 1) := by
  obtain ⟨_, a, b⟩ := mk_word h2 h1
  unfold V mant place
  rw [a, b, if_neg (by omega), if_neg (by omega)]
  congr 2
  omega
theorem frac_lt {x : Nat} (h : Pos x) (h0 : 0 < x) : nm x - 4503599627370496 < 4503599627370496 := by
  have := nm_ok h h0; omega
/-- What 'normalize' hands back: the digits as a normal number, and by how much it is too great. -/
theorem norm_ok {x : Nat} (h : Pos x) (h0 : 0 < x) : ∃ (e : Nat) (d : Int), 0 < e ∧ e < 2047 ∧ (e : Int) - 1075 + d = np x ∧ ((4503599627370496 ≤ x ∧ d = 0 ∧ e * 4503599627370496 + (nm x - 4503599627370496) = x) ∨ (x < 4503599627370496 ∧ d = -52 ∧ double.mul x 4841369599423283200 = some (e * 4503599627370496 + (nm x - 4503599627370496)))) := by
  have hf := fr_lt x
  have he := h.ex
  have hn := nm_ok h h0
  by_cases c : ex x = 0
  · have hx : x = fr x := by unfold Pos at h; unfold ex at c; unfold fr; omega
    have hlt : x < 4503599627370496 := by omega
    obtain ⟨L, hL⟩ : ∃ L, L = (fr x).log2 := ⟨_, rfl⟩
    have hfr0 : 0 < fr x := by omega
    have h3 : L < 52 := by rw [hL, Nat.log2_lt (by omega)]; omega
    have hnm : nm x = fr x * 2 ^ (52 - L) := by unfold nm; rw [if_pos c, hL]
    have hnp : np x = (L : Int) - 1126 := by unfold np; rw [if_pos c, hL]
    refine ⟨L + 1, -52, by omega, by omega, by omega, .inr ⟨hlt, rfl, ?_⟩⟩
    have hw := mk_word (e := L + 1) (f := nm x - 4503599627370496) (by omega) (by omega)
    unfold Format.mul
    rw [h.read]
    have hc : double.read 4841369599423283200 = .number false 4503599627370496 0 := by decide
    rw [hc]
    show some (double.nearest false (mant x * 4503599627370496) (place x + 0)) = _
    have hm : mant x = fr x := by unfold mant; rw [if_pos c]
    have hp : place x = -1074 := by unfold place; rw [if_pos c]
    rw [hm, hp, near_val false hw.1 (by omega) ?_]
    · rfl
    · rw [V_word (by omega) (by omega) (by omega), show 4503599627370496 + (nm x - 4503599627370496) = nm x by omega, hnm, show L + 1 - 1 = L by omega, Nat.mul_assoc (fr x) (2 ^ (52 - L)), ← Nat.pow_add, show 52 - L + L = 52 by omega, show ((-1074 : Int) + 0 + 1074).toNat = 0 by omega, Nat.pow_zero, Nat.mul_one]
  · have hnm : nm x = 4503599627370496 + fr x := by unfold nm; rw [if_neg c]
    have hnp : np x = (ex x : Int) - 1075 := by unfold np; rw [if_neg c]
    refine ⟨ex x, 0, by omega, he, by omega, .inl ⟨?_, rfl, ?_⟩⟩
    · unfold ex at c; unfold Pos at h; omega
    · rw [hnm]; unfold ex fr; unfold Pos at h; omega
theorem normalize (x : Nat) (h : Pos x) (h0 : 0 < x) (w : World) : Calls Try.prog 93 #[.float .f64 x] w fun e w' => ∃ (y : Nat) (d : Int), 0 < y ∧ y < 2047 ∧ (y : Int) - 1075 + d = np x ∧ (d = 0 ∨ d = -52) ∧ e = .returned (.tuple #[.float .f64 (y * 4503599627370496 + (nm x - 4503599627370496)), .int .i64 d]) ∧ w' = w := by
  obtain ⟨y, d, y0, y1, y2, hy⟩ := norm_ok h h0
  have hx : x < 18446744073709551616 := by unfold Pos at h; omega
  have hm : x % 9223372036854775808 = x := by unfold Pos at h; omega
  have hl := o_lt (x := x) (y := 4503599627370496) (by unfold Pos at h; omega) (by omega)
  have HM := Aside0.mk hm
  have Y2 := Aside0.mk y2
  clear hm y2
  rcases hy with ⟨a1, rfl, a3⟩ | ⟨a1, rfl, a3⟩
  · rw [decide_eq_false (by omega)] at hl
    have A3 := Aside0.mk a3
    clear a3
    go_enter Try.func93, Try.ntmps93
    go_wp2_with fail
    refine (abs x hx _).mono ?_
    rw [HM.out]
    rintro e v ⟨rfl, rfl⟩
    go_wp2
    go_ret2
    exact ⟨y, 0, y0, y1, Y2.out, .inl rfl, by rw [A3.out]; rfl, rfl⟩
  · rw [decide_eq_true (by omega)] at hl
    have hmul : ∀ t w, (binOp .mul t (.float .f64 x) (.float .f64 4841369599423283200)).run Try.prog w = .ok (.float .f64 (y * 4503599627370496 + (nm x - 4503599627370496))) w := fun t w => run_float_arith w .mul t .f64 x 4841369599423283200 _ a3
    clear a3
    go_enter Try.func93, Try.ntmps93
    go_wp2_with fail
    refine (abs x hx _).mono ?_
    rw [HM.out]
    rintro e v ⟨rfl, rfl⟩
    go_wp2_with (simp only [hmul])
    go_ret2
    exact ⟨y, -52, y0, y1, Y2.out, .inr rfl, rfl, rfl⟩
/-- The fraction that 'Frexp' hands back. -/
def fracW (x : Nat) : Nat := 1022 * 4503599627370496 + (nm x - 4503599627370496)
theorem frexp_wraps {y : Nat} {d : Int} (h : y < 2047) (hd : -52 ≤ d ∧ d ≤ 0) : wrap64 (y : Int) = (y : Int) ∧ wrap64 ((y : Int) - 1023) = (y : Int) - 1023 ∧ wrap64 ((y : Int) - 1023 + 1) = (y : Int) - 1023 + 1 ∧ wrap64 (d + ((y : Int) - 1023 + 1)) = d + ((y : Int) - 1023 + 1) :=
  ⟨wrap64_id (by omega) (by omega), wrap64_id (by omega) (by omega), wrap64_id (by omega) (by omega), wrap64_id (by omega) (by omega)⟩
theorem word_frac {y F : Nat} (h : y < 2047) (hf : F < 4503599627370496) : Go.bits .andNot .u64 ((y * 4503599627370496 + F : Nat) : Int) 9218868437227405312 = (F : Int) := by
  have hlt : y * 4503599627370496 + F < 9223372036854775808 := by omega
  rw [bitEx hlt, (mk_word h hf).2.2]
theorem word_half {F : Nat} (hf : F < 4503599627370496) : Go.bits .or .u64 (F : Int) 4602678819172646912 = ((1022 * 4503599627370496 + F : Nat) : Int) := bitOr (e := 1022) hf (by decide)
set_option maxHeartbeats 1000000 in
theorem frexp (x : Nat) (h : Pos x) (h0 : 0 < x) (w : World) : Calls Try.prog 90 #[.float .f64 x] w fun e w' => e = .returned (.tuple #[.float .f64 (fracW x), .int .i64 (np x + 53)]) ∧ w' = w := by
  have hx : x < 18446744073709551616 := by unfold Pos at h; omega
  have hz := o_eq (x := x) (y := 0) (by unfold Pos at h; omega) (by omega)
  rw [decide_eq_false (by omega)] at hz
  have hi : decide (x % 9223372036854775808 = 9218868437227405312) = false := by rw [decide_eq_false]; unfold Pos at h; omega
  have hn := pos_nan h
  obtain ⟨R, hR2⟩ : ∃ R, R = fracW x := ⟨_, rfl⟩
  rw [← hR2]
  have HR2 := Aside0.mk hR2; clear hR2
  go_enter Try.func90, Try.ntmps90
  go_wp2_with fail
  refine (isInf x hx _).mono ?_
  rw [hi]
  rintro e v ⟨rfl, rfl⟩
  go_wp2_with fail
  refine (isNaN x _).mono ?_
  rw [hn]
  rintro e v ⟨rfl, rfl⟩
  go_wp2_with fail
  refine (normalize x h h0 _).mono ?_
  rintro e v ⟨y, d, y0, y1, y2, hd, rfl, rfl⟩
  have hf := frac_lt h h0
  obtain ⟨F, hF⟩ : ∃ F, F = nm x - 4503599627370496 := ⟨_, rfl⟩
  have hR : fracW x = 1022 * 4503599627370496 + F := by unfold fracW; rw [hF]
  rw [← hF] at hf ⊢
  obtain ⟨Y, hY⟩ : ∃ Y, Y = y * 4503599627370496 + F := ⟨_, rfl⟩
  rw [← hY]
  have hb := bits Y
  have q1 : (Y : Int) / 4503599627370496 = (y : Int) := by omega
  have q2 : Go.bits .and .u64 (y : Int) 2047 = (y : Int) := by rw [and_2047 (by omega) (by omega)]; omega
  obtain ⟨q3, q4, q5, q6⟩ := frexp_wraps (y := y) (d := d) y1 (by omega)
  have q7 : Go.bits .andNot .u64 (Y : Int) 9218868437227405312 = (F : Int) := by rw [hY]; exact word_frac y1 hf
  have q8 : Go.bits .or .u64 (F : Int) 4602678819172646912 = (R : Int) := by rw [HR2.out, hR]; exact word_half hf
  have hfb := frombits (R : Int)
  rw [Int.toNat_natCast] at hfb
  have HE := Aside0.mk (show d + ((y : Int) - 1023 + 1) = np x + 53 by omega)
  clear hY hR HR2 hF y2 hd
  go_wp2
  go_ret2
  exact ⟨by rw [q6, ← HE.out]; rfl, rfl⟩
theorem Frexp (x : Nat) (h : Pos x) (h0 : 0 < x) (w : World) : Calls Try.prog 83 #[.float .f64 x] w fun e w' => e = .returned (.tuple #[.float .f64 (fracW x), .int .i64 (np x + 53)]) ∧ w' = w := by
  go_enter Try.func83, Try.ntmps83
  go_wp2_with fail
  refine (frexp x h h0 _).mono ?_
  rintro e v ⟨rfl, rfl⟩
  go_wp2
  go_ret2
  exact ⟨rfl, rfl⟩
/-- Of an infinity. -/
theorem Frexp_inf (w : World) : Calls Try.prog 83 #[.float .f64 9218868437227405312] w fun e w' => e = .returned (.tuple #[.float .f64 9218868437227405312, .int .i64 0]) ∧ w' = w := by
  have hz := o_eq (x := 9218868437227405312) (y := 0) (by omega) (by omega)
  rw [decide_eq_false (by omega)] at hz
  have inner : ∀ w, Calls Try.prog 90 #[.float .f64 9218868437227405312] w fun e w' => e = .returned (.tuple #[.float .f64 9218868437227405312, .int .i64 0]) ∧ w' = w := by
    intro w
    go_enter Try.func90, Try.ntmps90
    go_wp2_with fail
    refine (isInf 9218868437227405312 (by omega) _).mono ?_
    rw [show decide (9218868437227405312 % 9223372036854775808 = 9218868437227405312) = true from by decide]
    rintro e v ⟨rfl, rfl⟩
    go_wp2
    go_ret2
    exact ⟨rfl, rfl⟩
  clear hz
  go_enter Try.func83, Try.ntmps83
  go_wp2_with fail
  refine (inner _).mono ?_
  rintro e v ⟨rfl, rfl⟩
  go_wp2
  go_ret2
  exact ⟨rfl, rfl⟩
end Go.Proofs.Ytokhgodcamhibaa.FlI
end
section
namespace Go.Proofs.Ytokhgodcamhibaa.FlI
open Go.RowKit Go.Proofs.YtokhgodcamhibaaW.PrintWords Go.Proofs.YtokhgodcamhibaaW.PrintLast Go.Proofs.YtokhgodcamhibaaW.PrintMore Go.Proofs.Ytokhgodcamhibaa.Law Go.Proofs.Ytokhgodcamhibaa.Fl Go.Proofs.Ytokhgodcamhibaa.Num Ieee
set_option linter.unusedVariables false
set_option linter.unusedSimpArgs false
theorem up_exp {x : Nat} (h : Pos x) (h0 : 0 < x) {k E : Nat} (hk : V x * 2 ^ k < 2 ^ E) : (np x + 1126).toNat + k < E := by
  obtain ⟨a1, a2, a3, a4, a5⟩ := nm_ok h h0
  generalize (np x + 1126).toNat = A at a5 ⊢
  have h1 : V x * 2 ^ k * 2 ^ 52 < 2 ^ E * 2 ^ 52 := Nat.mul_lt_mul_of_pos_right hk (Nat.two_pow_pos _)
  rw [Nat.mul_right_comm, a5] at h1
  have h2 : 2 ^ 52 * 2 ^ A * 2 ^ k ≤ nm x * 2 ^ A * 2 ^ k := Nat.mul_le_mul_right _ (Nat.mul_le_mul_right _ a1)
  have h3 : 2 ^ (52 + (A + k)) < 2 ^ (E + 52) := by
    rw [Nat.pow_add 2 52, Nat.pow_add 2 A k, Nat.pow_add 2 E, ← Nat.mul_assoc]
    exact Nat.lt_of_le_of_lt h2 h1
  have := (Nat.pow_lt_pow_iff_right (a := 2) (by decide)).1 h3
  omega
theorem up_word {x k : Nat} (hk : V x * 2 ^ k < 2 ^ 2098) : ∃ z, Pos z ∧ V z = V x * 2 ^ k := by
  have e : V x * 2 ^ k = mant x * 2 ^ ((place x + 1074).toNat + k) := by unfold V; rw [Nat.pow_add, ← Nat.mul_assoc]
  obtain ⟨z, hz, hv⟩ := word_of (mant x) ((place x + 1074).toNat + k) (mant_lt x) (by rw [← e]; exact hk)
  exact ⟨z, hz, by rw [hv, e]⟩
theorem up_alg (v n a b c : Nat) (h : v * a = n * b) : a * n * (b * c) = v * c * (a * a) := by
  have e1 : a * n * (b * c) = n * b * (a * c) := by ac_rfl
  have e2 : v * c * (a * a) = v * a * (a * c) := by ac_rfl
  rw [e1, e2, h]
theorem near_val104 (b : Bool) {M : Nat} {p : Int} {x : Nat} (hx : Pos x) (hp : 0 ≤ p + 1178) (a : Nat) (ha : 2 ^ a = 2 ^ 52) (h : M * 2 ^ (p + 1178).toNat = V x * (2 ^ a * 2 ^ a)) (h52 : a = 52) : double.nearest b M p = double.word b x := by
  subst h52
  refine near_valK b hx 1178 (by decide) hp ?_
  rw [← Nat.pow_add] at h
  exact h
theorem up_places {n j : Int} {k e : Nat} (he : (e : Int) + j = n + k + 1023) (hn : -1126 ≤ n) : (j + ((e : Int) - 1075) + 1178).toNat = (n + 1126).toNat + k ∧ 0 ≤ j + ((e : Int) - 1075) + 1178 := by omega
theorem up_mul {x : Nat} (h : Pos x) (h0 : 0 < x) {k : Nat} {z : Nat} (hz : Pos z) (hv : V z = V x * 2 ^ k) (e f : Nat) (j : Int) (hj : -105 ≤ j) (hj2 : j ≤ 0) (hf : double.read f = .number false 4503599627370496 j) (he : (e : Int) + j = np x + k + 1023) (e0 : 0 < e) (e1 : e < 2047) :
    double.mul f (e * 4503599627370496 + (nm x - 4503599627370496)) = some z := by
  obtain ⟨a1, a2, a3, a4, a5⟩ := nm_ok h h0
  have A5 := Aside0.mk a5
  clear a5
  obtain ⟨F, hF, hF2⟩ : ∃ F, nm x - 4503599627370496 = F ∧ 4503599627370496 + F = nm x := ⟨_, rfl, Nat.add_sub_of_le a1⟩
  rw [hF]
  obtain ⟨w1, w2, w3⟩ := mk_word (e := e) (f := F) e1 (Nat.sub_lt_left_of_lt_add a1 (show nm x < 4503599627370496 + 4503599627370496 from a2) |> fun h => hF ▸ h)
  have hm : mant (e * 4503599627370496 + F) = nm x := by unfold mant; rw [w2, w3, if_neg (Nat.ne_of_gt e0)]; exact hF2
  have hp : place (e * 4503599627370496 + F) = (e : Int) - 1075 := by unfold place; rw [w2, if_neg (Nat.ne_of_gt e0)]
  unfold Format.mul
  rw [w1.read, hf, hm, hp]
  show some (double.nearest false (4503599627370496 * nm x) (j + ((e : Int) - 1075))) = _
  obtain ⟨e3, e4⟩ := up_places he a3
  have alg := fun (a : Nat) (h : V x * 2 ^ a = nm x * 2 ^ (np x + 1126).toNat) => up_alg (V x) (nm x) (2 ^ a) (2 ^ (np x + 1126).toNat) (2 ^ k) h
  rw [near_val104 false hz e4 52 rfl ?_ rfl]
  · rfl
  · rw [hv, e3, Nat.pow_add]
    exact alg 52 A5.out
theorem and_i64 : ∀ n : Fin 2048, Go.bits .and .i64 ((n.val : Nat) : Int) 2047 = ((n.val : Nat) : Int) := by decide +kernel
set_option maxHeartbeats 4000000 in
set_option maxRecDepth 100000 in
theorem ldexp (x : Nat) (h : Pos x) (h0 : 0 < x) (k : Nat) (hk : V x * 2 ^ k < 2 ^ 2098) (w : World) : Calls Try.prog 92 #[.float .f64 x, .int .i64 k] w fun e w' => ∃ z, Pos z ∧ V z = V x * 2 ^ k ∧ e = .returned (.float .f64 z) ∧ w' = w := by
  have hx : x < 18446744073709551616 := by unfold Pos at h; omega
  have hz := o_eq (x := x) (y := 0) (by unfold Pos at h; omega) (by omega)
  rw [decide_eq_false (by omega)] at hz
  have hi : decide (x % 9223372036854775808 = 9218868437227405312) = false := by rw [decide_eq_false]; unfold Pos at h; omega
  have hn := pos_nan h
  have hup := up_exp h h0 hk
  obtain ⟨z, hz1, hz2⟩ := up_word hk
  have Z2 := Aside0.mk hz2; have HUP := Aside0.mk hup
  clear hz2 hk hup
  go_enter Try.func92, Try.ntmps92
  go_wp2_with fail
  refine (isInf x hx _).mono ?_
  rw [hi]
  rintro e v ⟨rfl, rfl⟩
  go_wp2_with fail
  refine (isNaN x _).mono ?_
  rw [hn]
  rintro e v ⟨rfl, rfl⟩
  go_wp2_with fail
  refine (normalize x h h0 _).mono ?_
  rintro e v ⟨y, d, y0, y1, y2, hd, rfl, rfl⟩
  have hf := frac_lt h h0
  obtain ⟨a1, a2, a3, a4, a5⟩ := nm_ok h h0
  clear a1 a2 a4 a5
  obtain ⟨F, hF⟩ : ∃ F, F = nm x - 4503599627370496 := ⟨_, rfl⟩
  obtain ⟨n, hN⟩ : ∃ n, n = np x := ⟨_, rfl⟩
  rw [← hF] at hf ⊢
  have HF := Aside0.mk hF
  rw [← hN] at y2 a3
  have hk2 : n + k ≤ 971 := by have := HUP.out; rw [← hN] at this; omega
  have HN := Aside0.mk hN
  clear hF hN
  obtain ⟨Y, hY⟩ : ∃ Y, Y = y * 4503599627370496 + F := ⟨_, rfl⟩
  rw [← hY]
  have hb := bits Y
  have q1 : (Y : Int) / 4503599627370496 = (y : Int) := by omega
  have q7 : Go.bits .andNot .u64 (Y : Int) 9218868437227405312 = (F : Int) := by rw [hY]; exact word_frac y1 hf
  have d1 : -52 ≤ d := by omega
  have d2 : d ≤ 0 := by omega
  have k1 : (k : Int) ≤ 2097 := by omega
  have k0 : (0 : Int) ≤ (k : Int) := by omega
  have yi0 : (0 : Int) < (y : Int) := by omega
  have yi1 : (y : Int) < 2047 := by omega
  have E1 : (k : Int) + d + ((y : Int) - 1023) = n + k + 52 := by omega
  have qa : Go.bits .and .i64 (y : Int) 2047 = (y : Int) := and_i64 ⟨y, by omega⟩
  have c1 : ¬ (k : Int) + d + ((y : Int) - 1023) < -1075 := by omega
  have c2 : ¬ (k : Int) + d + ((y : Int) - 1023) > 1023 := by omega
  by_cases c3 : (k : Int) + d + ((y : Int) - 1023) < -1022
  · skip
    obtain ⟨e, he⟩ : ∃ e : Nat, (e : Int) = (k : Int) + d + ((y : Int) - 1023) + 53 + 1023 := ⟨((k : Int) + d + ((y : Int) - 1023) + 53 + 1023).toNat, by omega⟩
    obtain ⟨R, hR⟩ : ∃ R, R = e * 4503599627370496 + F := ⟨_, rfl⟩
    have e0 : 0 < e := by omega
    have e1 : e < 2047 := by omega
    have q8 : Go.bits .or .u64 (F : Int) (((k : Int) + d + ((y : Int) - 1023) + 53 + 1023) * 4503599627370496) = (R : Int) := by
      rw [← he, hR]
      exact bitOr hf (by omega)
    have hfb := frombits (R : Int)
    rw [Int.toNat_natCast] at hfb
    have hm : double.mul 4368491638549381120 R = some z := by
      rw [hR, HF.out]
      exact up_mul h h0 hz1 Z2.out e 4368491638549381120 (-105) (by omega) (by omega) (by decide) (by rw [← HN.out]; clear hR; omega) e0 e1
    have hmul : ∀ t w, (binOp .mul t (.float .f64 4368491638549381120) (.float .f64 R)).run Try.prog w = .ok (.float .f64 z) w := fun t w => run_float_arith w .mul t .f64 4368491638549381120 R _ hm
    have HE := Aside0.mk E1
    clear hY y2 hd E1 he hR hm
    go_wp2_with (simp only [hmul])
    go_ret
    exact ⟨z, hz1, Z2.out, rfl, rfl⟩
  · skip
    obtain ⟨e, he⟩ : ∃ e : Nat, (e : Int) = (k : Int) + d + ((y : Int) - 1023) + 1023 := ⟨((k : Int) + d + ((y : Int) - 1023) + 1023).toNat, by omega⟩
    obtain ⟨R, hR⟩ : ∃ R, R = e * 4503599627370496 + F := ⟨_, rfl⟩
    have e0 : 0 < e := by omega
    have e1 : e < 2047 := by omega
    have q8 : Go.bits .or .u64 (F : Int) (((k : Int) + d + ((y : Int) - 1023) + 1023) * 4503599627370496) = (R : Int) := by
      rw [← he, hR]
      exact bitOr hf (by omega)
    have hfb := frombits (R : Int)
    rw [Int.toNat_natCast] at hfb
    have hm : double.mul 4607182418800017408 R = some z := by
      rw [hR, HF.out]
      exact up_mul h h0 hz1 Z2.out e 4607182418800017408 (-52) (by omega) (by omega) (by decide) (by rw [← HN.out]; clear hR; omega) e0 e1
    have hmul : ∀ t w, (binOp .mul t (.float .f64 4607182418800017408) (.float .f64 R)).run Try.prog w = .ok (.float .f64 z) w := fun t w => run_float_arith w .mul t .f64 4607182418800017408 R _ hm
    have HE := Aside0.mk E1
    clear hY y2 hd E1 he hR hm
    go_wp2_with (simp only [hmul])
    go_ret
    exact ⟨z, hz1, Z2.out, rfl, rfl⟩
end Go.Proofs.Ytokhgodcamhibaa.FlI
end
section
namespace Go.Proofs.Ytokhgodcamhibaa.FlI
open Go.RowKit Go.Proofs.YtokhgodcamhibaaW.PrintWords Go.Proofs.YtokhgodcamhibaaW.PrintLast Go.Proofs.YtokhgodcamhibaaW.PrintMore Go.Proofs.Ytokhgodcamhibaa.Law Go.Proofs.Ytokhgodcamhibaa.Fl Go.Proofs.Ytokhgodcamhibaa.Num Ieee
set_option linter.unusedVariables false
set_option linter.unusedSimpArgs false
theorem NaN (w : World) : Calls Try.prog 81 #[] w fun e w' => e = .returned (.float .f64 9221120237041090561) ∧ w' = w := by
  have hfb := frombits 9221120237041090561
  rw [show (9221120237041090561 : Int).toNat = 9221120237041090561 from rfl] at hfb
  go_enter Try.func81, Try.ntmps81
  go_wp2
  go_ret
  exact ⟨rfl, rfl⟩
theorem Ldexp (x : Nat) (h : Pos x) (h0 : 0 < x) (k : Nat) (hk : V x * 2 ^ k < 2 ^ 2098) (w : World) : Calls Try.prog 84 #[.float .f64 x, .int .i64 k] w fun e w' => ∃ z, Pos z ∧ V z = V x * 2 ^ k ∧ e = .returned (.float .f64 z) ∧ w' = w := by
  have HK := Aside0.mk hk; clear hk
  go_enter Try.func84, Try.ntmps84
  go_wp2_with fail
  refine (ldexp x h h0 k HK.out _).mono ?_
  rintro e v ⟨z, h1, h2, rfl, rfl⟩
  have H2 := Aside0.mk h2; clear h2
  go_wp2
  go_ret
  exact ⟨z, h1, H2.out, rfl, rfl⟩
/-- A round: what is taken off, and what is left. -/
theorem round_ok {r y : Nat} (hr : Pos r) (hy : Pos y) (h0 : 0 < y) (h : y ≤ r) : ∃ k : Nat, (k : Int) = np r - np y - (if nm r < nm y then 1 else 0) ∧ V y * 2 ^ k < 2 ^ 2098 ∧ ∀ z, Pos z → V z = V y * 2 ^ k → ∃ x, Pos x ∧ V r = V y * 2 ^ k + V x ∧ double.sub r z = some x := by
  have hV : V y ≤ V r := by
    rcases Nat.lt_or_ge (V r) (V y) with c | c
    · exfalso
      have e1 : y ≠ r := by rintro rfl; omega
      have := V_mono hr hy c
      omega
    · exact c
  obtain ⟨s1, s2, s3⟩ := step_up hr hy h0 hV _ rfl
  refine ⟨(np r - np y - if nm r < nm y then 1 else 0).toNat, Int.toNat_of_nonneg s1, Nat.lt_of_le_of_lt s2 (V_lt hr.ex), ?_⟩
  intro z hz hzv
  obtain ⟨x, hx, hxv⟩ := diff_word hr hz (by rw [hzv]; exact s2) (by rw [hzv]; exact s3)
  exact ⟨x, hx, by rw [← hzv]; exact hxv, sub_exact hr hz hx hxv⟩
theorem rd_fin {x : Nat} (h : x % 9223372036854775808 < 9218868437227405312) : double.read x = .number (sg x) (mant x) (place x) := by
  rw [read_eq, if_pos (by unfold ex; omega)]
theorem rd_inf {x : Nat} (h : x % 9223372036854775808 = 9218868437227405312) : double.read x = .infinity (sg x) := by
  rw [read_eq, if_neg (by unfold ex; omega), if_pos (by unfold fr; omega)]
theorem rd_nan {x : Nat} (h : 9218868437227405312 < x % 9223372036854775808) : double.read x = .nan (sg x) (fr x) := by
  rw [read_eq, if_neg (by unfold ex; omega), if_neg (by unfold fr; omega)]
theorem mant_zero {x : Nat} (h : x % 9223372036854775808 = 0) : mant x = 0 := by
  unfold mant ex fr
  rw [if_pos (by omega)]; omega
theorem mant_pos {x : Nat} (h : x % 9223372036854775808 ≠ 0) (hf : x % 9223372036854775808 < 9218868437227405312) : mant x ≠ 0 := by
  unfold mant ex fr
  split <;> omega
theorem remI_none {x y : Nat} (h : y % 9223372036854775808 = 0 ∨ 9218868437227405312 ≤ x % 9223372036854775808 ∨ 9218868437227405312 < y % 9223372036854775808) : remI x y = 9221120237041090560 := by
  unfold remI
  rcases Nat.lt_trichotomy (x % 9223372036854775808) 9218868437227405312 with a | a | a
  · rw [rd_fin a]
    rcases h with h | h | h
    · rw [rd_fin (x := y) (by omega), mant_zero h]; simp
    · omega
    · rw [rd_nan h]
  · rw [rd_inf a]
    rcases Nat.lt_trichotomy (y % 9223372036854775808) 9218868437227405312 with b | b | b
    · rw [rd_fin b]
    · rw [rd_inf b]
    · rw [rd_nan b]
  · rw [rd_nan a]
theorem V_abs {x : Nat} : V (x % 9223372036854775808) = V x := by
  have h1 : ex (x % 9223372036854775808) = ex x := by unfold ex; omega
  have h2 : fr (x % 9223372036854775808) = fr x := by unfold fr; omega
  unfold V mant place
  rw [h1, h2]
/-- The rest of finite numbers, told by its value. -/
theorem remI_some {x y r : Nat} (hx : x < 18446744073709551616) (hfx : x % 9223372036854775808 < 9218868437227405312) (hy0 : y % 9223372036854775808 ≠ 0) (hfy : y % 9223372036854775808 < 9218868437227405312) (hr : Pos r) (hv : V r = V (x % 9223372036854775808) % V (y % 9223372036854775808)) : remI x y = ((double.word (sg x) r : Nat) : Int) := by
  unfold remI
  rw [rd_fin hfx, rd_fin hfy]
  simp only
  rw [if_neg (mant_pos hy0 hfy)]
  rw [V_abs, V_abs] at hv
  by_cases c : x % 9223372036854775808 = 0
  · rw [if_pos (mant_zero c)]
    have hV : V x = 0 := by unfold V; rw [mant_zero c, Nat.zero_mul]
    rw [hV, Nat.zero_mod] at hv
    have : r = 0 := V_inj hr (by unfold Pos; omega) (by rw [hv, V_zero])
    rw [this, word_eq]
    unfold sg
    by_cases d : x < 9223372036854775808
    · rw [if_neg (by rw [beq_iff_eq]; omega)]; omega
    · rw [if_pos (by rw [beq_iff_eq]; omega)]; omega
  · rw [if_neg (mant_pos c hfx)]
    unfold remW
    rw [← hv, near_V _ hr]
theorem remI_inf {x y : Nat} (hfx : x % 9223372036854775808 < 9218868437227405312) (hy : y % 9223372036854775808 = 9218868437227405312) : remI x y = (x : Int) := by
  unfold remI
  rw [rd_fin hfx, rd_inf hy]
theorem wordF_fin {x : Nat} (h : x % 9223372036854775808 ≤ 9218868437227405312) : wordF x = (x : Int) := by
  unfold wordF Float.nanN
  rw [decide_eq_false (by omega)]
  rfl
set_option maxHeartbeats 4000000 in
set_option maxRecDepth 100000 in
theorem mod_n1 (x y : Nat) (hx : x < 18446744073709551616) (hy : y < 18446744073709551616) (c : y % 9223372036854775808 = 0) (w : World) : Calls Try.prog 69 #[.float .f64 x, .float .f64 y] w fun e w' => ∃ r, e = .returned (.float .f64 r) ∧ wordF r = remI x y ∧ w' = w := by
  have hz := ord_zero hy
  rw [decide_eq_true c] at hz
  have HR := Aside0.mk (remI_none (x := x) (.inl c))
  clear c
  go_enter Try.func69, Try.ntmps69
  go_wp2_with fail
  refine (NaN _).mono ?_
  rintro e v ⟨rfl, rfl⟩
  go_wp2
  go_ret
  exact ⟨9221120237041090561, rfl, by rw [HR.out]; decide, rfl⟩
set_option maxHeartbeats 4000000 in
set_option maxRecDepth 100000 in
theorem mod_n2 (x y : Nat) (hx : x < 18446744073709551616) (hy : y < 18446744073709551616) (c0 : y % 9223372036854775808 ≠ 0) (c : x % 9223372036854775808 = 9218868437227405312) (w : World) : Calls Try.prog 69 #[.float .f64 x, .float .f64 y] w fun e w' => ∃ r, e = .returned (.float .f64 r) ∧ wordF r = remI x y ∧ w' = w := by
  have hz := ord_zero hy
  rw [decide_eq_false c0] at hz
  have HR := Aside0.mk (remI_none (y := y) (x := x) (.inr (.inl (by omega))))
  have hi := decide_eq_true c
  clear c c0
  go_enter Try.func69, Try.ntmps69
  go_wp2_with fail
  refine (isInf x hx _).mono ?_
  rw [hi]
  rintro e v ⟨rfl, rfl⟩
  go_wp2_with fail
  refine (NaN _).mono ?_
  rintro e v ⟨rfl, rfl⟩
  go_wp2
  go_ret
  exact ⟨9221120237041090561, rfl, by rw [HR.out]; decide, rfl⟩
set_option maxHeartbeats 4000000 in
set_option maxRecDepth 100000 in
theorem mod_n3 (x y : Nat) (hx : x < 18446744073709551616) (hy : y < 18446744073709551616) (c0 : y % 9223372036854775808 ≠ 0) (c : 9218868437227405312 < x % 9223372036854775808) (w : World) : Calls Try.prog 69 #[.float .f64 x, .float .f64 y] w fun e w' => ∃ r, e = .returned (.float .f64 r) ∧ wordF r = remI x y ∧ w' = w := by
  have hz := ord_zero hy
  rw [decide_eq_false c0] at hz
  have HR := Aside0.mk (remI_none (y := y) (x := x) (.inr (.inl (by omega))))
  have hi : decide (x % 9223372036854775808 = 9218868437227405312) = false := decide_eq_false (by omega)
  have hn : Float.nanN x = true := by unfold Float.nanN; rw [decide_eq_true_eq]; omega
  clear c c0
  go_enter Try.func69, Try.ntmps69
  go_wp2_with fail
  refine (isInf x hx _).mono ?_
  rw [hi]
  rintro e v ⟨rfl, rfl⟩
  go_wp2_with fail
  refine (isNaN x _).mono ?_
  rw [hn]
  rintro e v ⟨rfl, rfl⟩
  go_wp2_with fail
  refine (NaN _).mono ?_
  rintro e v ⟨rfl, rfl⟩
  go_wp2
  go_ret
  exact ⟨9221120237041090561, rfl, by rw [HR.out]; decide, rfl⟩
set_option maxHeartbeats 4000000 in
set_option maxRecDepth 100000 in
theorem mod_n4 (x y : Nat) (hx : x < 18446744073709551616) (hy : y < 18446744073709551616) (c0 : y % 9223372036854775808 ≠ 0) (c1 : x % 9223372036854775808 < 9218868437227405312) (c : 9218868437227405312 < y % 9223372036854775808) (w : World) : Calls Try.prog 69 #[.float .f64 x, .float .f64 y] w fun e w' => ∃ r, e = .returned (.float .f64 r) ∧ wordF r = remI x y ∧ w' = w := by
  have hz := ord_zero hy
  rw [decide_eq_false c0] at hz
  have HR := Aside0.mk (remI_none (x := x) (y := y) (.inr (.inr (by omega))))
  have hi : decide (x % 9223372036854775808 = 9218868437227405312) = false := decide_eq_false (by omega)
  have hn : Float.nanN x = false := by unfold Float.nanN; rw [decide_eq_false_iff_not]; omega
  have hn2 : Float.nanN y = true := by unfold Float.nanN; rw [decide_eq_true_eq]; omega
  clear c c0 c1
  go_enter Try.func69, Try.ntmps69
  go_wp2_with fail
  refine (isInf x hx _).mono ?_
  rw [hi]
  rintro e v ⟨rfl, rfl⟩
  go_wp2_with fail
  refine (isNaN x _).mono ?_
  rw [hn]
  rintro e v ⟨rfl, rfl⟩
  go_wp2_with fail
  refine (isNaN y _).mono ?_
  rw [hn2]
  rintro e v ⟨rfl, rfl⟩
  go_wp2_with fail
  refine (NaN _).mono ?_
  rintro e v ⟨rfl, rfl⟩
  go_wp2
  go_ret
  exact ⟨9221120237041090561, rfl, by rw [HR.out]; decide, rfl⟩
theorem xor_low {r : Nat} (h : r < 9223372036854775808) : r ^^^ 2 ^ 63 = 2 ^ 63 + r := by
  apply Nat.eq_of_testBit_eq
  intro j
  rw [Nat.testBit_xor, Nat.testBit_two_pow]
  rcases Nat.lt_trichotomy j 63 with c | c | c
  · rw [Nat.testBit_two_pow_add_gt c, decide_eq_false (by omega), Bool.xor_false]
  · subst c
    rw [Nat.testBit_two_pow_add_eq, decide_eq_true rfl, Bool.xor_true]
  · have h64 : 2 ^ 63 + r < 2 ^ j := Nat.lt_of_lt_of_le (show 2 ^ 63 + r < 2 ^ 64 by omega) (Nat.pow_le_pow_right (by decide) c)
    rw [Nat.testBit_lt_two_pow h64, Nat.testBit_lt_two_pow (show r < 2 ^ j by omega), decide_eq_false (by omega)]; rfl
theorem neg_low {r : Nat} (h : r < 9223372036854775808) (w : World) : (Op.unary .neg (.float .f64 r)).run Try.prog w = .ok (.float .f64 (9223372036854775808 + r)) w := by
  have e : Op.negFloat .f64 r = 9223372036854775808 + r := by
    show r ^^^ 2 ^ 63 = _
    rw [xor_low h]
  show (pure (.float .f64 (Op.negFloat .f64 r)) : Sem Value).run Try.prog w = _
  rw [e]; rfl
theorem neg_high {r : Nat} (h : r < 9223372036854775808) (w : World) : (Op.unary .neg (.float .f64 (9223372036854775808 + r))).run Try.prog w = .ok (.float .f64 r) w := by
  have e : Op.negFloat .f64 (9223372036854775808 + r) = r := by
    show (9223372036854775808 + r) ^^^ 2 ^ 63 = r
    rw [show 9223372036854775808 + r = r ^^^ 2 ^ 63 by rw [xor_low h], Nat.xor_assoc, Nat.xor_self, Nat.xor_zero]
  show (pure (.float .f64 (Op.negFloat .f64 (9223372036854775808 + r))) : Sem Value).run Try.prog w = _
  rw [e]; rfl
set_option maxHeartbeats 4000000 in
set_option maxRecDepth 100000 in
theorem mod_inf_p (x y : Nat) (hx : x < 18446744073709551616) (hy : y < 18446744073709551616) (c0 : y % 9223372036854775808 ≠ 0) (c1 : x % 9223372036854775808 < 9218868437227405312) (c : y % 9223372036854775808 = 9218868437227405312) (s : x < 9223372036854775808) (w : World) : Calls Try.prog 69 #[.float .f64 x, .float .f64 y] w fun e w' => ∃ r, e = .returned (.float .f64 r) ∧ wordF r = remI x y ∧ w' = w := by
  have hz := ord_zero hy
  rw [decide_eq_false c0] at hz
  have hi : decide (x % 9223372036854775808 = 9218868437227405312) = false := decide_eq_false (by omega)
  have hn : Float.nanN x = false := by unfold Float.nanN; rw [decide_eq_false_iff_not]; omega
  have hn2 : Float.nanN y = false := by unfold Float.nanN; rw [decide_eq_false_iff_not]; omega
  have hneg := ord_neg hx hn
  rw [decide_eq_false (by omega)] at hneg
  have hge : (FloatKind.f64.format.order x 9218868437227405312 == some Ordering.gt || FloatKind.f64.format.order x 9218868437227405312 == some Ordering.eq) = false := by
    rw [o_gt (by omega) (by omega), o_eq (by omega) (by omega), decide_eq_false (by omega), decide_eq_false (by omega)]; rfl
  have HR := Aside0.mk (remI_inf c1 c)
  have HW := Aside0.mk (wordF_fin (x := x) (by omega))
  have HC := Aside0.mk c
  clear c0 c1 c s
  go_enter Try.func69, Try.ntmps69
  go_wp2_with fail
  refine (isInf x hx _).mono ?_
  rw [hi]
  rintro e v ⟨rfl, rfl⟩
  go_wp2_with fail
  refine (isNaN x _).mono ?_
  rw [hn]
  rintro e v ⟨rfl, rfl⟩
  go_wp2_with fail
  refine (isNaN y _).mono ?_
  rw [hn2]
  rintro e v ⟨rfl, rfl⟩
  go_wp2_with fail
  refine (abs y hy _).mono ?_
  rw [HC.out]
  rintro e v ⟨rfl, rfl⟩
  go_wp2_with fail
  refine (Frexp_inf _).mono ?_
  rintro e v ⟨rfl, rfl⟩
  go_wp2 
  go_loopw [7] (fun u wx => u = .float .f64 x ∧ wx = v) (fun _ _ => 0)
  case atStart => exact ⟨rfl, rfl⟩
  case round =>
    obtain ⟨rfl, rfl⟩ := hrel
    go_wp2
    go_ret
    exact ⟨x, rfl, by rw [HR.out, HW.out], rfl⟩
set_option maxHeartbeats 4000000 in
set_option maxRecDepth 100000 in
theorem mod_inf_n (x y : Nat) (hx : x < 18446744073709551616) (hy : y < 18446744073709551616) (c0 : y % 9223372036854775808 ≠ 0) (c1 : x % 9223372036854775808 < 9218868437227405312) (c : y % 9223372036854775808 = 9218868437227405312) (a : Nat) (ha : x = 9223372036854775808 + a) (s : 0 < a) (w : World) : Calls Try.prog 69 #[.float .f64 x, .float .f64 y] w fun e w' => ∃ r, e = .returned (.float .f64 r) ∧ wordF r = remI x y ∧ w' = w := by
  have hz := ord_zero hy
  rw [decide_eq_false c0] at hz
  have hi : decide (x % 9223372036854775808 = 9218868437227405312) = false := decide_eq_false (by omega)
  have hn : Float.nanN x = false := by unfold Float.nanN; rw [decide_eq_false_iff_not]; omega
  have hn2 : Float.nanN y = false := by unfold Float.nanN; rw [decide_eq_false_iff_not]; omega
  have hneg := ord_neg hx hn
  rw [decide_eq_true (by omega)] at hneg
  have hng := neg_high (r := a) (by omega)
  have hng2 := neg_low (r := a) (by omega)
  rw [← ha] at hng hng2
  have hge : (FloatKind.f64.format.order a 9218868437227405312 == some Ordering.gt || FloatKind.f64.format.order a 9218868437227405312 == some Ordering.eq) = false := by
    rw [o_gt (by omega) (by omega), o_eq (by omega) (by omega), decide_eq_false (by omega), decide_eq_false (by omega)]; rfl
  have HR := Aside0.mk (remI_inf c1 c)
  have HW := Aside0.mk (wordF_fin (x := x) (by omega))
  have HC := Aside0.mk c
  clear c0 c1 c s ha
  go_enter Try.func69, Try.ntmps69
  go_wp2_with fail
  refine (isInf x hx _).mono ?_
  rw [hi]
  rintro e v ⟨rfl, rfl⟩
  go_wp2_with fail
  refine (isNaN x _).mono ?_
  rw [hn]
  rintro e v ⟨rfl, rfl⟩
  go_wp2_with fail
  refine (isNaN y _).mono ?_
  rw [hn2]
  rintro e v ⟨rfl, rfl⟩
  go_wp2_with fail
  refine (abs y hy _).mono ?_
  rw [HC.out]
  rintro e v ⟨rfl, rfl⟩
  go_wp2_with fail
  refine (Frexp_inf _).mono ?_
  rintro e v ⟨rfl, rfl⟩
  go_wp2
  go_loopw [7] (fun u wx => u = .float .f64 a ∧ wx = v) (fun _ _ => 0)
  case atStart => exact ⟨rfl, rfl⟩
  case round =>
    obtain ⟨rfl, rfl⟩ := hrel
    go_wp2
    go_ret
    exact ⟨x, rfl, by rw [HR.out, HW.out], rfl⟩
set_option maxHeartbeats 4000000 in
set_option maxRecDepth 100000 in
theorem mod_inf_z (x y : Nat) (hx : x < 18446744073709551616) (hy : y < 18446744073709551616) (c0 : y % 9223372036854775808 ≠ 0) (c1 : x % 9223372036854775808 < 9218868437227405312) (c : y % 9223372036854775808 = 9218868437227405312) (s : x = 9223372036854775808) (w : World) : Calls Try.prog 69 #[.float .f64 x, .float .f64 y] w fun e w' => ∃ r, e = .returned (.float .f64 r) ∧ wordF r = remI x y ∧ w' = w := by
  have hz := ord_zero hy
  rw [decide_eq_false c0] at hz
  have hi : decide (x % 9223372036854775808 = 9218868437227405312) = false := decide_eq_false (by omega)
  have hn : Float.nanN x = false := by unfold Float.nanN; rw [decide_eq_false_iff_not]; omega
  have hn2 : Float.nanN y = false := by unfold Float.nanN; rw [decide_eq_false_iff_not]; omega
  have hneg := ord_neg hx hn
  rw [decide_eq_false (by omega)] at hneg
  have hge : (FloatKind.f64.format.order x 9218868437227405312 == some Ordering.gt || FloatKind.f64.format.order x 9218868437227405312 == some Ordering.eq) = false := by
    rw [ord hn (by decide), some_cmp, some_cmp, cmp_gt, cmp_eq, s]; decide
  have HR := Aside0.mk (remI_inf c1 c)
  have HW := Aside0.mk (wordF_fin (x := x) (by omega))
  have HC := Aside0.mk c
  clear c0 c1 c s
  go_enter Try.func69, Try.ntmps69
  go_wp2_with fail
  refine (isInf x hx _).mono ?_
  rw [hi]
  rintro e v ⟨rfl, rfl⟩
  go_wp2_with fail
  refine (isNaN x _).mono ?_
  rw [hn]
  rintro e v ⟨rfl, rfl⟩
  go_wp2_with fail
  refine (isNaN y _).mono ?_
  rw [hn2]
  rintro e v ⟨rfl, rfl⟩
  go_wp2_with fail
  refine (abs y hy _).mono ?_
  rw [HC.out]
  rintro e v ⟨rfl, rfl⟩
  go_wp2_with fail
  refine (Frexp_inf _).mono ?_
  rintro e v ⟨rfl, rfl⟩
  go_wp2 
  go_loopw [7] (fun u wx => u = .float .f64 x ∧ wx = v) (fun _ _ => 0)
  case atStart => exact ⟨rfl, rfl⟩
  case round =>
    obtain ⟨rfl, rfl⟩ := hrel
    go_wp2
    go_ret
    exact ⟨x, rfl, by rw [HR.out, HW.out], rfl⟩
theorem ge_bit {r y : Nat} (hr : Pos r) (hy : Pos y) : (FloatKind.f64.format.order r y == some Ordering.gt || FloatKind.f64.format.order r y == some Ordering.eq) = decide (y ≤ r) := by
  unfold Pos at hr hy
  rw [o_gt (by omega) (by omega), o_eq (by omega) (by omega), Bool.eq_iff_iff, Bool.or_eq_true, decide_eq_true_eq, decide_eq_true_eq, decide_eq_true_eq]
  omega
theorem frac_bit {r y : Nat} (hr : Pos r) (hr0 : 0 < r) (hy : Pos y) (hy0 : 0 < y) : (FloatKind.f64.format.order (fracW r) (fracW y) == some Ordering.lt) = decide (nm r < nm y) := by
  have h1 := nm_ok hr hr0
  have h2 := nm_ok hy hy0
  obtain ⟨a1, a2, _⟩ := h1
  obtain ⟨b1, b2, _⟩ := h2
  unfold fracW
  generalize nm r = p at *
  generalize nm y = q at *
  rw [o_lt (by omega) (by omega), decide_eq_decide]
  omega
set_option maxHeartbeats 4000000 in
set_option maxRecDepth 100000 in
theorem mod_fin_z (x y : Nat) (hx : x < 18446744073709551616) (hy : y < 18446744073709551616) (c0 : y % 9223372036854775808 ≠ 0) (c1 : x % 9223372036854775808 < 9218868437227405312) (b : Nat) (hb : b = y % 9223372036854775808) (c : b < 9218868437227405312) (s : x = 9223372036854775808) (w : World) : Calls Try.prog 69 #[.float .f64 x, .float .f64 y] w fun e w' => ∃ r, e = .returned (.float .f64 r) ∧ wordF r = remI x y ∧ w' = w := by
  have hz := ord_zero hy
  rw [decide_eq_false c0] at hz
  have hi : decide (x % 9223372036854775808 = 9218868437227405312) = false := decide_eq_false (by omega)
  have hn : Float.nanN x = false := by unfold Float.nanN; rw [decide_eq_false_iff_not]; omega
  have hn2 : Float.nanN y = false := by unfold Float.nanN; rw [decide_eq_false_iff_not]; omega
  have hneg := ord_neg hx hn
  rw [decide_eq_false (by omega)] at hneg
  have hbp : Pos b := c
  have hb0 : 0 < b := by omega
  have hge : (FloatKind.f64.format.order x b == some Ordering.gt || FloatKind.f64.format.order x b == some Ordering.eq) = false := by
    rw [ord hn (pos_nan hbp), some_cmp, some_cmp, cmp_gt, cmp_eq, s, show Float.keyN 9223372036854775808 = 0 from by decide, key_low (by omega), decide_eq_false (by omega), decide_eq_false (by omega)]; rfl
  have hR : remI x y = (x : Int) := by
    rw [remI_some (r := 0) hx c1 c0 (by rw [← hb]; exact c) (by unfold Pos; omega) (by rw [show x % 9223372036854775808 = 0 by omega, V_zero, Nat.zero_mod])]
    rw [s]; decide
  have HR := Aside0.mk hR
  have HW := Aside0.mk (wordF_fin (x := x) (by omega))
  have HC := Aside0.mk hb.symm
  clear c0 c1 c s hb hR
  go_enter Try.func69, Try.ntmps69
  go_wp2_with fail
  refine (isInf x hx _).mono ?_
  rw [hi]
  rintro e v ⟨rfl, rfl⟩
  go_wp2_with fail
  refine (isNaN x _).mono ?_
  rw [hn]
  rintro e v ⟨rfl, rfl⟩
  go_wp2_with fail
  refine (isNaN y _).mono ?_
  rw [hn2]
  rintro e v ⟨rfl, rfl⟩
  go_wp2_with fail
  refine (abs y hy _).mono ?_
  rw [HC.out]
  rintro e v ⟨rfl, rfl⟩
  go_wp2_with fail
  refine (Frexp b hbp hb0 _).mono ?_
  rintro e v ⟨rfl, rfl⟩
  go_wp2
  go_loopw [7] (fun u wx => u = .float .f64 x ∧ wx = v) (fun _ _ => 0)
  case atStart => exact ⟨rfl, rfl⟩
  case round =>
    obtain ⟨rfl, rfl⟩ := hrel
    go_wp2
    go_ret
    exact ⟨x, rfl, by rw [HR.out, HW.out], rfl⟩
set_option maxHeartbeats 4000000 in
set_option maxRecDepth 100000 in
theorem mod_fin_p (x y : Nat) (hx : x < 18446744073709551616) (hy : y < 18446744073709551616) (c0 : y % 9223372036854775808 ≠ 0) (c1 : x % 9223372036854775808 < 9218868437227405312) (b : Nat) (hb : b = y % 9223372036854775808) (c : b < 9218868437227405312) (s : x < 9223372036854775808) (w : World) : Calls Try.prog 69 #[.float .f64 x, .float .f64 y] w fun e w' => ∃ r, e = .returned (.float .f64 r) ∧ wordF r = remI x y ∧ w' = w := by
  have hz := ord_zero hy
  rw [decide_eq_false c0] at hz
  have hi : decide (x % 9223372036854775808 = 9218868437227405312) = false := decide_eq_false (by omega)
  have hn : Float.nanN x = false := by unfold Float.nanN; rw [decide_eq_false_iff_not]; omega
  have hn2 : Float.nanN y = false := by unfold Float.nanN; rw [decide_eq_false_iff_not]; omega
  have hneg := ord_neg hx hn
  rw [decide_eq_false (by omega)] at hneg
  have hbp : Pos b := c
  have hb0 : 0 < b := by omega
  have hap : Pos x := by unfold Pos; omega
  have hx1 : x % 9223372036854775808 = x := by omega
  have hsg : sg x = false := by unfold sg; rw [beq_eq_false_iff_ne]; omega
  have HR := Aside0.mk (fun (r : Nat) (hr : Pos r) (hv : V r = V x % V b) => remI_some (r := r) hx c1 c0 (by rw [← hb]; exact c) hr (by rw [hx1, ← hb]; exact hv))
  rw [hsg] at HR
  have HC := Aside0.mk hb.symm
  have HVB := Aside0.mk (V_pos hbp hb0)
  obtain ⟨B, hB⟩ : ∃ B, B = np b := ⟨_, rfl⟩
  have HNB := nm_ok hbp hb0
  have hB1 : -1126 ≤ B := by rw [hB]; exact HNB.2.2.1
  have hB2 : B ≤ 971 := by rw [hB]; exact HNB.2.2.2.1
  have HB := Aside0.mk hB
  clear c0 c1 c s hb hx1 hsg HNB hB
  go_enter Try.func69, Try.ntmps69
  go_wp2_with fail
  refine (isInf x hx _).mono ?_
  rw [hi]
  rintro e v ⟨rfl, rfl⟩
  go_wp2_with fail
  refine (isNaN x _).mono ?_
  rw [hn]
  rintro e v ⟨rfl, rfl⟩
  go_wp2_with fail
  refine (isNaN y _).mono ?_
  rw [hn2]
  rintro e v ⟨rfl, rfl⟩
  go_wp2_with fail
  refine (abs y hy _).mono ?_
  rw [HC.out]
  rintro e v ⟨rfl, rfl⟩
  go_wp2_with fail
  refine (Frexp b hbp hb0 _).mono ?_
  rw [← HB.out]
  rintro e v ⟨rfl, rfl⟩
  go_wp2
  go_loopg [7] (V x) (fun kq u wx => ∃ r, u = .float .f64 r ∧ kq = V r ∧ Aside0 (Pos r) ∧ Aside0 (V r % V b = V x % V b) ∧ wx = v)
  case atStart => exact ⟨x, rfl, rfl, ⟨hap⟩, ⟨rfl⟩, rfl⟩
  case round =>
    obtain ⟨r, rfl, hkq, HP, HV, rfl⟩ := hrel
    have HKQ := Aside0.mk hkq
    clear hkq
    have hge := ge_bit HP.out hbp
    by_cases g : b ≤ r
    · rw [decide_eq_true g] at hge
      have hr0 : 0 < r := by omega
      obtain ⟨k, hk, hkt, hkr⟩ := round_ok HP.out hbp hb0 g
      have hlt := frac_bit HP.out hr0 hbp hb0
      have hnr := nm_ok HP.out hr0
      obtain ⟨R, hR⟩ : ∃ R, R = np r := ⟨_, rfl⟩
      have hR1 : -1126 ≤ R := by rw [hR]; exact hnr.2.2.1
      have hR2 : R ≤ 971 := by rw [hR]; exact hnr.2.2.2.1
      rw [← hR, ← HB.out] at hk
      have HRR := Aside0.mk hR
      have HKT := Aside0.mk hkt; have HKR := Aside0.mk hkr
      clear hR hnr hkt hkr g
      go_wp2_with fail
      refine (Frexp r HP.out hr0 _).mono ?_
      rw [← HRR.out]
      rintro e v2 ⟨rfl, rfl⟩
      by_cases m : nm r < nm b
      · rw [decide_eq_true m] at hlt
        rw [if_pos m] at hk
        have HK := Aside0.mk hk
        have e1 : R + 53 - 1 - (B + 53) = (k : Int) := by omega
        clear m hk
        go_wp2_with (simp only [e1])
        refine (Ldexp b hbp hb0 k HKT.out _).mono ?_
        rintro e v3 ⟨z, hz1, hz2, rfl, rfl⟩
        obtain ⟨q, hq1, hq2, hq3⟩ := HKR.out z hz1 hz2
        have hsub : ∀ t w, (binOp .sub t (.float .f64 r) (.float .f64 z)).run Try.prog w = .ok (.float .f64 q) w := fun t w => run_float_arith w .sub t .f64 r z q hq3
        have H1 := Aside0.mk hq1; have H2 := Aside0.mk hq2
        clear hq1 hq2 hq3 hz1 hz2 e1
        go_wp2_with (simp only [hsub])
        go_roundg (V q)
        case measure =>
          have h1 := H2.out; have h2 := HVB.out; have h3 := HKQ.out
          have h4 : 0 < V b * 2 ^ k := Nat.mul_pos h2 (Nat.two_pow_pos _)
          omega
        case rel => exact ⟨q, rfl, rfl, H1, ⟨by rw [← HV.out, H2.out, Nat.add_comm, Nat.add_mul_mod_self_left]⟩, rfl⟩
      · rw [decide_eq_false m] at hlt
        rw [if_neg m] at hk
        have HK := Aside0.mk hk
        have e1 : R + 53 - (B + 53) = (k : Int) := by omega
        clear m hk
        go_wp2_with (simp only [e1])
        refine (Ldexp b hbp hb0 k HKT.out _).mono ?_
        rintro e v3 ⟨z, hz1, hz2, rfl, rfl⟩
        obtain ⟨q, hq1, hq2, hq3⟩ := HKR.out z hz1 hz2
        have hsub : ∀ t w, (binOp .sub t (.float .f64 r) (.float .f64 z)).run Try.prog w = .ok (.float .f64 q) w := fun t w => run_float_arith w .sub t .f64 r z q hq3
        have H1 := Aside0.mk hq1; have H2 := Aside0.mk hq2
        clear hq1 hq2 hq3 hz1 hz2 e1
        go_wp2_with (simp only [hsub])
        go_roundg (V q)
        case measure =>
          have h1 := H2.out; have h2 := HVB.out; have h3 := HKQ.out
          have h4 : 0 < V b * 2 ^ k := Nat.mul_pos h2 (Nat.two_pow_pos _)
          omega
        case rel => exact ⟨q, rfl, rfl, H1, ⟨by rw [← HV.out, H2.out, Nat.add_comm, Nat.add_mul_mod_self_left]⟩, rfl⟩
    · rw [decide_eq_false g] at hge
      have hvr : V r = V x % V b := by rw [← HV.out, Nat.mod_eq_of_lt (V_lt_of hbp (by omega))]
      have HF := Aside0.mk (HR.out r HP.out hvr)
      have HW := Aside0.mk (wordF_fin (x := r) (by have := HP.out; unfold Pos at this; omega))
      clear hvr g
      go_wp2
      go_ret
      exact ⟨r, rfl, by rw [HF.out, HW.out, word_eq]; rfl, rfl⟩
set_option maxHeartbeats 4000000 in
set_option maxRecDepth 100000 in
theorem mod_fin_n (x y : Nat) (hx : x < 18446744073709551616) (hy : y < 18446744073709551616) (c0 : y % 9223372036854775808 ≠ 0) (c1 : x % 9223372036854775808 < 9218868437227405312) (b : Nat) (hb : b = y % 9223372036854775808) (c : b < 9218868437227405312) (a : Nat) (ha : x = 9223372036854775808 + a) (s : 0 < a) (w : World) : Calls Try.prog 69 #[.float .f64 x, .float .f64 y] w fun e w' => ∃ r, e = .returned (.float .f64 r) ∧ wordF r = remI x y ∧ w' = w := by
  have hz := ord_zero hy
  rw [decide_eq_false c0] at hz
  have hi : decide (x % 9223372036854775808 = 9218868437227405312) = false := decide_eq_false (by omega)
  have hn : Float.nanN x = false := by unfold Float.nanN; rw [decide_eq_false_iff_not]; omega
  have hn2 : Float.nanN y = false := by unfold Float.nanN; rw [decide_eq_false_iff_not]; omega
  have hneg := ord_neg hx hn
  rw [decide_eq_true (by omega)] at hneg
  have hng := neg_high (r := a) (by omega)
  have hng2 := neg_low (r := a) (by omega)
  rw [← ha] at hng hng2
  have hbp : Pos b := c
  have hb0 : 0 < b := by omega
  have hap : Pos a := by unfold Pos; omega
  have hx1 : x % 9223372036854775808 = a := by omega
  have hsg : sg x = true := by unfold sg; rw [beq_iff_eq]; omega
  have HR := Aside0.mk (fun (r : Nat) (hr : Pos r) (hv : V r = V a % V b) => remI_some (r := r) hx c1 c0 (by rw [← hb]; exact c) hr (by rw [hx1, ← hb]; exact hv))
  rw [hsg] at HR
  have HC := Aside0.mk hb.symm
  have HVB := Aside0.mk (V_pos hbp hb0)
  obtain ⟨B, hB⟩ : ∃ B, B = np b := ⟨_, rfl⟩
  have HNB := nm_ok hbp hb0
  have hB1 : -1126 ≤ B := by rw [hB]; exact HNB.2.2.1
  have hB2 : B ≤ 971 := by rw [hB]; exact HNB.2.2.2.1
  have HB := Aside0.mk hB
  clear c0 c1 c s hb hx1 hsg HNB hB ha
  go_enter Try.func69, Try.ntmps69
  go_wp2_with fail
  refine (isInf x hx _).mono ?_
  rw [hi]
  rintro e v ⟨rfl, rfl⟩
  go_wp2_with fail
  refine (isNaN x _).mono ?_
  rw [hn]
  rintro e v ⟨rfl, rfl⟩
  go_wp2_with fail
  refine (isNaN y _).mono ?_
  rw [hn2]
  rintro e v ⟨rfl, rfl⟩
  go_wp2_with fail
  refine (abs y hy _).mono ?_
  rw [HC.out]
  rintro e v ⟨rfl, rfl⟩
  go_wp2_with fail
  refine (Frexp b hbp hb0 _).mono ?_
  rw [← HB.out]
  rintro e v ⟨rfl, rfl⟩
  go_wp2
  go_loopg [7] (V a) (fun kq u wx => ∃ r, u = .float .f64 r ∧ kq = V r ∧ Aside0 (Pos r) ∧ Aside0 (V r % V b = V a % V b) ∧ wx = v)
  case atStart => exact ⟨a, rfl, rfl, ⟨hap⟩, ⟨rfl⟩, rfl⟩
  case round =>
    obtain ⟨r, rfl, hkq, HP, HV, rfl⟩ := hrel
    have HKQ := Aside0.mk hkq
    clear hkq
    have hge := ge_bit HP.out hbp
    by_cases g : b ≤ r
    · rw [decide_eq_true g] at hge
      have hr0 : 0 < r := by omega
      obtain ⟨k, hk, hkt, hkr⟩ := round_ok HP.out hbp hb0 g
      have hlt := frac_bit HP.out hr0 hbp hb0
      have hnr := nm_ok HP.out hr0
      obtain ⟨R, hR⟩ : ∃ R, R = np r := ⟨_, rfl⟩
      have hR1 : -1126 ≤ R := by rw [hR]; exact hnr.2.2.1
      have hR2 : R ≤ 971 := by rw [hR]; exact hnr.2.2.2.1
      rw [← hR, ← HB.out] at hk
      have HRR := Aside0.mk hR
      have HKT := Aside0.mk hkt; have HKR := Aside0.mk hkr
      clear hR hnr hkt hkr g
      go_wp2_with fail
      refine (Frexp r HP.out hr0 _).mono ?_
      rw [← HRR.out]
      rintro e v2 ⟨rfl, rfl⟩
      by_cases m : nm r < nm b
      · rw [decide_eq_true m] at hlt
        rw [if_pos m] at hk
        have HK := Aside0.mk hk
        have e1 : R + 53 - 1 - (B + 53) = (k : Int) := by omega
        clear m hk
        go_wp2_with (simp only [e1])
        refine (Ldexp b hbp hb0 k HKT.out _).mono ?_
        rintro e v3 ⟨z, hz1, hz2, rfl, rfl⟩
        obtain ⟨q, hq1, hq2, hq3⟩ := HKR.out z hz1 hz2
        have hsub : ∀ t w, (binOp .sub t (.float .f64 r) (.float .f64 z)).run Try.prog w = .ok (.float .f64 q) w := fun t w => run_float_arith w .sub t .f64 r z q hq3
        have H1 := Aside0.mk hq1; have H2 := Aside0.mk hq2
        clear hq1 hq2 hq3 hz1 hz2 e1
        go_wp2_with (simp only [hsub])
        go_roundg (V q)
        case measure =>
          have h1 := H2.out; have h2 := HVB.out; have h3 := HKQ.out
          have h4 : 0 < V b * 2 ^ k := Nat.mul_pos h2 (Nat.two_pow_pos _)
          omega
        case rel => exact ⟨q, rfl, rfl, H1, ⟨by rw [← HV.out, H2.out, Nat.add_comm, Nat.add_mul_mod_self_left]⟩, rfl⟩
      · rw [decide_eq_false m] at hlt
        rw [if_neg m] at hk
        have HK := Aside0.mk hk
        have e1 : R + 53 - (B + 53) = (k : Int) := by omega
        clear m hk
        go_wp2_with (simp only [e1])
        refine (Ldexp b hbp hb0 k HKT.out _).mono ?_
        rintro e v3 ⟨z, hz1, hz2, rfl, rfl⟩
        obtain ⟨q, hq1, hq2, hq3⟩ := HKR.out z hz1 hz2
        have hsub : ∀ t w, (binOp .sub t (.float .f64 r) (.float .f64 z)).run Try.prog w = .ok (.float .f64 q) w := fun t w => run_float_arith w .sub t .f64 r z q hq3
        have H1 := Aside0.mk hq1; have H2 := Aside0.mk hq2
        clear hq1 hq2 hq3 hz1 hz2 e1
        go_wp2_with (simp only [hsub])
        go_roundg (V q)
        case measure =>
          have h1 := H2.out; have h2 := HVB.out; have h3 := HKQ.out
          have h4 : 0 < V b * 2 ^ k := Nat.mul_pos h2 (Nat.two_pow_pos _)
          omega
        case rel => exact ⟨q, rfl, rfl, H1, ⟨by rw [← HV.out, H2.out, Nat.add_comm, Nat.add_mul_mod_self_left]⟩, rfl⟩
    · rw [decide_eq_false g] at hge
      have hvr : V r = V a % V b := by rw [← HV.out, Nat.mod_eq_of_lt (V_lt_of hbp (by omega))]
      have HF := Aside0.mk (HR.out r HP.out hvr)
      have HW := Aside0.mk (wordF_fin (x := (9223372036854775808 + r)) (by have := HP.out; unfold Pos at this; omega))
      have hngr := neg_low (r := r) (by have := HP.out; unfold Pos at this; omega)
      clear hvr g
      go_wp2
      go_ret
      exact ⟨(9223372036854775808 + r), rfl, by rw [HF.out, HW.out, word_eq]; rfl, rfl⟩
end Go.Proofs.Ytokhgodcamhibaa.FlI
end
section
namespace Go.Proofs.Ytokhgodcamhibaa.FlI
open Go.RowKit Go.Proofs.YtokhgodcamhibaaW.PrintWords Go.Proofs.YtokhgodcamhibaaW.PrintLast Go.Proofs.YtokhgodcamhibaaW.PrintMore Go.Proofs.Ytokhgodcamhibaa.Law Go.Proofs.Ytokhgodcamhibaa.Fl Go.Proofs.Ytokhgodcamhibaa.Num Ieee
set_option linter.unusedVariables false
set_option linter.unusedSimpArgs false
theorem mod (x y : Nat) (hx : x < 18446744073709551616) (hy : y < 18446744073709551616) (w : World) : Calls Try.prog 69 #[.float .f64 x, .float .f64 y] w fun e w' => ∃ r, e = .returned (.float .f64 r) ∧ wordF r = remI x y ∧ w' = w := by
  by_cases c0 : y % 9223372036854775808 = 0
  · exact mod_n1 x y hx hy c0 w
  rcases Nat.lt_trichotomy (x % 9223372036854775808) 9218868437227405312 with a | a | a
  · rcases Nat.lt_trichotomy (y % 9223372036854775808) 9218868437227405312 with b | b | b
    · rcases Nat.lt_trichotomy x 9223372036854775808 with s | s | s
      · exact mod_fin_p x y hx hy c0 a _ rfl b s w
      · exact mod_fin_z x y hx hy c0 a _ rfl b s w
      · exact mod_fin_n x y hx hy c0 a _ rfl b (x - 9223372036854775808) (by omega) (by omega) w
    · rcases Nat.lt_trichotomy x 9223372036854775808 with s | s | s
      · exact mod_inf_p x y hx hy c0 a b s w
      · exact mod_inf_z x y hx hy c0 a b s w
      · exact mod_inf_n x y hx hy c0 a b (x - 9223372036854775808) (by omega) (by omega) w
    · exact mod_n4 x y hx hy c0 a b w
  · exact mod_n2 x y hx hy c0 a w
  · exact mod_n3 x y hx hy c0 a w
theorem Mod (x y : Nat) (hx : x < 18446744073709551616) (hy : y < 18446744073709551616) (w : World) : Calls Try.prog 35 #[.float .f64 x, .float .f64 y] w fun e w' => ∃ r, e = .returned (.float .f64 r) ∧ wordF r = remI x y ∧ w' = w := by
  go_enter Try.func35, Try.ntmps35
  go_wp2_with fail
  refine (mod x y hx hy _).mono ?_
  rintro e v ⟨r, rfl, hr, rfl⟩
  have HR := Aside0.mk hr; clear hr
  go_wp2
  go_ret
  exact ⟨r, rfl, HR.out, rfl⟩
theorem rem (x y : Nat) (hx : x < 18446744073709551616) (hy : y < 18446744073709551616) (w : World) : Calls Try.prog 11 #[.int .u64 x, .int .u64 y] w fun e w' => e = .returned (.int .u64 (remI x y)) ∧ Drawn0 w w' := by
  go_enter Try.func11, Try.ntmps11
  go_wp2_with fail
  refine (real64 _ _).mono ?_
  rintro e v ⟨rfl, rfl⟩
  go_wp2_with fail
  refine (real64 _ _).mono ?_
  rintro e v2 ⟨rfl, rfl⟩
  go_wp2_with fail
  refine (Mod x y hx hy _).mono ?_
  rintro e v3 ⟨r, rfl, hr, rfl⟩
  have HR := Aside0.mk hr; clear hr
  go_wp2_with fail
  refine (word _ _).mono ?_
  rintro e v4 ⟨rfl, rfl⟩
  go_wp2
  go_ret
  exact ⟨by rw [HR.out]; rfl, Drawn0.refl _⟩
theorem less (x y : Int) (w : World) : Calls Try.prog 51 #[.int .u64 x, .int .u64 y] w fun e w' => e = .returned (.bool (Ieee.double.order x.toNat y.toNat == some .lt)) ∧ w' = w := by
  go_enter Try.func51, Try.ntmps51
  go_wp2_with fail
  refine (real64 _ _).mono ?_
  rintro e w1 ⟨rfl, rfl⟩
  go_wp2_with fail
  refine (real64 _ _).mono ?_
  rintro e w2 ⟨rfl, rfl⟩
  go_wp2
  go_ret
  exact ⟨rfl, rfl⟩
theorem equal (x y : Int) (w : World) : Calls Try.prog 52 #[.int .u64 x, .int .u64 y] w fun e w' => e = .returned (.bool (Ieee.double.order x.toNat y.toNat == some .eq)) ∧ w' = w := by
  go_enter Try.func52, Try.ntmps52
  go_wp2_with fail
  refine (real64 _ _).mono ?_
  rintro e w1 ⟨rfl, rfl⟩
  go_wp2_with fail
  refine (real64 _ _).mono ?_
  rintro e w2 ⟨rfl, rfl⟩
  go_wp2
  go_ret
  exact ⟨rfl, rfl⟩
end Go.Proofs.Ytokhgodcamhibaa.FlI
end
section
namespace Go.Proofs.Ytokhgodcamhibaa.Quot
open Go.RowKit Go.Proofs.YtokhgodcamhibaaW.PrintWords Go.Proofs.YtokhgodcamhibaaW.PrintMore Go.Proofs.Ytokhgodcamhibaa.Fl Go.Proofs.Ytokhgodcamhibaa.Num Go.Proofs.Ytokhgodcamhibaa.QFnExactDoBinary Go.Proofs.Ytokhgodcamhibaa.QFnQuotients Go.Proofs.Ytokhgodcamhibaa.Rnd Ieee
set_option linter.unusedVariables false
set_option linter.unusedSimpArgs false
set_option exponentiation.threshold 3000
theorem and255 (a : Int) : 0 ≤ Go.bits .and .i64 a 255 ∧ Go.bits .and .i64 a 255 < 256 := by
  unfold Go.bits
  simp only [BitVec.toNat_and]
  have h : (BitVec.ofInt IntKind.i64.bits a).toNat &&& (BitVec.ofInt IntKind.i64.bits 255).toNat ≤ 255 := Nat.le_trans Nat.and_le_right (by decide)
  generalize (BitVec.ofInt IntKind.i64.bits a).toNat &&& (BitVec.ofInt IntKind.i64.bits 255).toNat = n at h
  rw [IntKind.wrap_i64]
  omega
/-- A cursor within its bytes. -/
def Cur (b : List Int) (i : Int) : Prop := 0 ≤ i ∧ i ≤ (b.length : Int) ∧ b.length ≤ 1048576
theorem new_loop (b : List Int) (hb : b.length ≤ 1048576) (d : Nat) : ∀ (k : Nat) (x i : Int), 0 ≤ i → i ≤ (b.length : Int) → (b.length : Int) - i = d → d < k → ∃ h, spec_l01New.l0 k b x i = some (b, 0, h) := by
  induction d with
  | zero =>
    intro k x i h0 h1 hd hk
    obtain ⟨k, rfl⟩ : ∃ m, k = m + 1 := ⟨k - 1, by omega⟩
    simp only [spec_l01New.l0]
    rw [if_neg (by omega)]
    exact ⟨_, rfl⟩
  | succ d ih =>
    intro k x i h0 h1 hd hk
    obtain ⟨k, rfl⟩ : ∃ m, k = m + 1 := ⟨k - 1, by omega⟩
    simp only [spec_l01New.l0]
    rw [if_pos (by omega)]
    by_cases h4 : i < 4000
    · rw [if_pos h4, if_pos h0, wrap64_id (n := i + 1) (by omega) (by omega)]
      exact ih k _ (i + 1) (by omega) (by omega) (by omega) (by omega)
    · rw [if_neg h4]
      exact ⟨_, rfl⟩
theorem new_ok (b : List Int) (hb : b.length ≤ 1048576) {k : Nat} (hk : 1048577 ≤ k) : ∃ h, spec_l01New.f k b = some (b, 0, h) ∧ Cur b 0 := by
  obtain ⟨h, e⟩ := new_loop b hb b.length k (wrap64 (11501 + (b.length : Int))) 0 (by omega) (by omega) (by omega) (by omega)
  exact ⟨h, e, by omega, by omega, hb⟩
theorem byte_ok {b : List Int} {i : Int} (h : Int) (hc : Cur b i) : ∃ x i' h', spec_l01Byte.f b i h = some (x, i', h') ∧ 0 ≤ x ∧ x < 256 ∧ Cur b i' := by
  unfold spec_l01Byte.f
  obtain ⟨h0, h1, h2⟩ := hc
  by_cases hl : i < (b.length : Int)
  · rw [if_pos hl, if_pos h0, wrap64_id (n := i + 1) (by omega) (by omega)]
    exact ⟨_, _, _, rfl, (and255 _).1, (and255 _).2, by omega, by omega, h2⟩
  · rw [if_neg hl]
    exact ⟨_, _, _, rfl, (and255 _).1, (and255 _).2, h0, h1, h2⟩
theorem below_ok {b : List Int} {i : Int} (h n : Int) (hc : Cur b i) (hn : n ≤ 4294967296) : ∃ x i' h', spec_l01Below.f b i h n = some (x, i', h') ∧ 0 ≤ x ∧ (0 < n → x < n) ∧ Cur b i' := by
  unfold spec_l01Below.f
  by_cases h0 : n ≤ 0
  · rw [if_pos h0]
    exact ⟨_, _, _, rfl, by omega, by omega, hc⟩
  · rw [if_neg h0]
    by_cases h1 : n ≤ 256
    · rw [if_pos h1]
      obtain ⟨x, i1, h1, e, hx, hx1, hc1⟩ := byte_ok h hc
      rw [e]
      simp only [Option.bind_some]
      rw [if_neg (by omega)]
      refine ⟨_, _, _, rfl, Int.tmod_nonneg _ hx, fun _ => ?_, hc1⟩
      rw [tmod_pos hx]
      exact Int.emod_lt_of_pos _ (by omega)
    · rw [if_neg h1]
      obtain ⟨x, i1, h1, e1, hx, hx1, hc1⟩ := byte_ok h hc
      obtain ⟨y, i2, h2, e2, hy, hy1, hc2⟩ := byte_ok h1 hc1
      obtain ⟨z, i3, h3, e3, hz, hz1, hc3⟩ := byte_ok h2 hc2
      obtain ⟨w, i4, h4, e4, hw, hw1, hc4⟩ := byte_ok h3 hc3
      simp only [e1, e2, e3, e4, Option.bind_some]
      rw [if_neg (by omega)]
      rw [wrap64_id (n := x * 16777216) (by omega) (by omega), wrap64_id (n := y * 65536) (by omega) (by omega), wrap64_id (n := z * 256) (by omega) (by omega), wrap64_id (n := x * 16777216 + y * 65536) (by omega) (by omega), wrap64_id (n := x * 16777216 + y * 65536 + z * 256) (by omega) (by omega), wrap64_id (n := x * 16777216 + y * 65536 + z * 256 + w) (by omega) (by omega)]
      refine ⟨_, _, _, rfl, Int.tmod_nonneg _ (by omega), fun _ => ?_, hc4⟩
      rw [tmod_pos (by omega)]
      exact Int.emod_lt_of_pos _ (by omega)
def up (m : Nat) : Nat := double.nearest false m 0
theorem pow_ok {m : Nat} (h : m < 9007199254740992) : m * 2 ^ 1074 < 2 ^ 2098 := by
  have h1 : m * 2 ^ 1074 < 2 ^ 53 * 2 ^ 1074 := Nat.mul_lt_mul_of_pos_right (by omega) (Nat.two_pow_pos _)
  rw [← Nat.pow_add] at h1
  exact Nat.lt_trans h1 (Nat.pow_lt_pow_right (by decide) (by decide))
theorem up_gen {m j : Nat} {p : Int} (hp : -1074 ≤ p) (hj : (p + 1074).toNat = j) (h : m < 9007199254740992) (hN : m * 2 ^ j < 2 ^ 2098) : Pos (double.nearest false m p) ∧ V (double.nearest false m p) = m * 2 ^ j := by
  obtain ⟨x, hx, hv⟩ := word_of m j h hN
  have e : double.nearest false m p = x := by
    rw [near_val false hx hp (by rw [hv, hj]), word_eq]
    rfl
  rw [e]
  exact ⟨hx, hv⟩
theorem up_ok {m : Nat} (h : m < 9007199254740992) : Pos (up m) ∧ V (up m) = m * 2 ^ 1074 := up_gen (p := 0) (j := 1074) (by decide) (by decide) h (pow_ok h)
theorem up_zero : up 0 = 0 := by
  unfold up
  rw [nearest_zero, word_eq]
  rfl
theorem mant_pos {m : Nat} (h : m < 9007199254740992) (h0 : 0 < m) : 0 < mant (up m) := by
  obtain ⟨_, hv⟩ := up_ok h
  rcases Nat.eq_zero_or_pos (mant (up m)) with e | e
  · unfold V at hv
    rw [e, Nat.zero_mul] at hv
    have := Nat.mul_pos h0 (Nat.two_pow_pos 1074)
    omega
  · exact e
theorem mant_zero : mant (up 0) = 0 := by rw [up_zero]; rfl
end Go.Proofs.Ytokhgodcamhibaa.Quot
end
section
namespace Go.Proofs.Ytokhgodcamhibaa.QFnRoots
open Go.RowKit Go.Proofs.YtokhgodcamhibaaW.PrintWords Go.Proofs.YtokhgodcamhibaaW.PrintLast Go.Proofs.YtokhgodcamhibaaW.PrintMore
theorem run_field34_0 (a0 a1 a2 a3 : Value) (w : World) : (Instr.field 34 (.agg #[a0, a1, a2, a3]) 0).run Try.prog w = .ok a0 w := by kernel_rfl
theorem max2_mx (k k' : IntKind) (x y : Int) : Builtin.max2 (.int k x) (.int k' y) = pure (.int k (mx x y)) := by rw [max2_int]; rfl
theorem min2_mn (k k' : IntKind) (x y : Int) : Builtin.min2 (.int k x) (.int k' y) = pure (.int k (mn x y)) := by rw [min2_int]; rfl
attribute [local go_sem] max_two min_two max_three min_three max_four min_four run_field34_0 max2_mx min2_mn   -- for this text's walks alone
set_option linter.unusedVariables false
set_option linter.unusedSimpArgs false
def errW : Option Int → Value
  | none => .nilIface
  | some c => .iface 0 (.int .i64 c)
theorem errW_none : errW none = .nilIface := rfl
theorem errW_some (c : Int) : errW (some c) = .iface 0 (.int .i64 c) := rfl
-- the values' own types
end Go.Proofs.Ytokhgodcamhibaa.QFnRoots
end
