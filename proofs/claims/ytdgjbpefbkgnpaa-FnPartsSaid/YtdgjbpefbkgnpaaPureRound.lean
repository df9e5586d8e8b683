/- RoundTo of a number's own parts is the number. No condition. -/
import Derived.Test.YtdgjbpefbkgnpaaQFnPartsx6
import Derived.Test.YtdgjbpefbkgnpaaNum
import Derived.Lib.BitFns
namespace Go.Proofs.Ytdgjbpefbkgnpaa.Pure.Round
open Go.RowKit Go.Proofs.Ytdgjbpefbkgnpaa.QFnParts Go.Proofs.Ytdgjbpefbkgnpaa.Num Go.Proofs.YtdgjbpefbkgnpaaW.PrintWords Go.Proofs.YtdgjbpefbkgnpaaW.PrintMore
set_option linter.unusedVariables false
set_option linter.unusedSimpArgs false
theorem j2_eq (k : Nat) (x1 x2 s e m L : Int) (h0 : 0 ≤ x1) (h1 : x1 ≤ 18446744073709551615) (hL : (Lib.bitLen x1.toNat : Int) = L) (hL0 : 0 ≤ L) (hL1 : L ≤ 64) (hx0 : -1200 ≤ x2) (hx1 : x2 ≤ 1000) (hs1 : x2 + L - 53 ≤ e) (hs2 : -1074 ≤ e) (hs3 : e = x2 + L - 53 ∨ e = -1074) (hm : m < 9007199254740992)
    (hd : (e = x2 ∧ m = x1) ∨ (x2 < e ∧ impl_halved.f x1 (e - x2) = some m)) : impl_RoundTo.j2 (k + 2) x1 x2 s = impl_RoundTo.j4 k s e m := by
  have hmx : mx (wrap64 (wrap64 (x2 + L) - 53)) (-1074) = e := by
    rw [wrap64_id (n := x2 + L) (by omega) (by omega), wrap64_id (by omega) (by omega)]
    unfold mx
    split <;> omega
  simp only [impl_RoundTo.j2]
  have hf : ∀ q, bits_Len64.f q x1 = some L := fun q => by unfold bits_Len64.f; rw [if_pos ⟨h0, h1⟩, hL]
  rw [hf]
  simp only [Option.bind_some, hmx]
  rcases hd with ⟨rfl, rfl⟩ | ⟨hlt, hh⟩
  · rw [if_neg (by omega), wrap64_id (n := e - e) (by omega) (by omega), if_pos (by omega)]
    have : shl .u64 m (e - e) = m := by
      unfold shl
      rw [show e - e = 0 by omega]
      simp only [Int.toNat_zero, Nat.zero_min, Int.pow_zero, Int.mul_one]
      exact u64_id (by omega) (by omega)
    rw [this]
    simp only [impl_RoundTo.j3]
    rw [if_neg (by omega)]
  · rw [if_pos (by omega), wrap64_id (n := e - x2) (by omega) (by omega), hh]
    simp only [Option.bind_some, impl_RoundTo.j3]
    rw [if_neg (by omega)]
theorem halved1 {m : Int} (h0 : 0 ≤ m) (h1 : m < 9007199254740992) : impl_halved.f (2 * m) 1 = some m := by
  unfold impl_halved.f
  have a1 : wrap64 (1 - 1) = 0 := by decide +kernel
  have a2 : IntKind.u64.wrap (shl .u64 1 1 - 1) = ((1 : Nat) : Int) := by decide +kernel
  have a3 : shl .u64 1 0 = 1 := by decide +kernel
  have a4 : Go.bits .and .u64 (2 * m) ((1 : Nat) : Int) = (2 * m) % ((2 ^ 1 : Nat) : Int) := and_mask 1 1 (by decide) (by decide) (by omega) (by omega)
  have a5 : shr .u64 (2 * m) 1 = m := by
    unfold shr
    rw [show (2 : Int) ^ min (1 : Int).toNat IntKind.u64.bits = 2 by decide]
    omega
  have a6 : (2 * m) % ((2 ^ 1 : Nat) : Int) = 0 := by omega
  rw [a1, a2, a3, a4, a5, a6, if_neg (by decide), if_pos (by decide), if_pos (by decide), if_pos (by decide), if_neg (by decide), if_neg (by decide)]
theorem halved8 {m lo : Int} (h0 : 0 ≤ m) (h1 : m < 9007199254740992) (h2 : 0 ≤ lo) (h3 : lo ≤ 1) : impl_halved.f (256 * m + lo) 8 = some m := by
  unfold impl_halved.f
  have a1 : wrap64 (8 - 1) = 7 := by decide +kernel
  have a2 : IntKind.u64.wrap (shl .u64 1 8 - 1) = ((255 : Nat) : Int) := by decide +kernel
  have a3 : shl .u64 1 7 = 128 := by decide +kernel
  have a4 : Go.bits .and .u64 (256 * m + lo) ((255 : Nat) : Int) = (256 * m + lo) % ((2 ^ 8 : Nat) : Int) := and_mask 8 255 (by decide) (by decide) (by omega) (by omega)
  have a5 : shr .u64 (256 * m + lo) 8 = m := by
    unfold shr
    rw [show (2 : Int) ^ min (8 : Int).toNat IntKind.u64.bits = 256 by decide]
    omega
  have a6 : (256 * m + lo) % ((2 ^ 8 : Nat) : Int) = lo := by omega
  rw [a1, a2, a3, a4, a5, a6, if_neg (by decide), if_pos (by decide), if_pos (by decide), if_pos (by decide), if_neg (by omega), if_neg (by omega)]
theorem or_join (i : Nat) {a b : Int} (h0 : 0 ≤ a) (h1 : a < 18446744073709551616) (h2 : 0 ≤ b) (h3 : b < 18446744073709551616) (hb : b.toNat < 2 ^ i) (ha : a.toNat % 2 ^ i = 0) : Go.bits .or .u64 a b = a + b := by
  rw [u64_or a b h0 h1 h2 h3, nat_join i a.toNat b.toNat ha hb]
  omega
/-- A finite number out of its sign, its mantissa and its exponent. -/
theorem j4_normal (k : Nat) (b : Bool) (m e : Int) (h0 : 4503599627370496 ≤ m) (h1 : m < 9007199254740992) (h2 : -1074 ≤ e) (h3 : e ≤ 971) : impl_RoundTo.j4 (k + 1) (if b = true then 9223372036854775808 else 0) e m = some ((if b = true then 9223372036854775808 else 0) + (e + 1075) * 4503599627370496 + (m - 4503599627370496)) := by
  simp only [impl_RoundTo.j4]
  rw [if_neg (by omega), if_neg (by omega), wrap64_id (n := e + 1075) (by omega) (by omega), u64_id (n := e + 1075) (by omega) (by omega), u64_id (n := (e + 1075) * 4503599627370496) (by omega) (by omega), and_52 (by omega) (by omega)]
  have hm : m % 4503599627370496 = m - 4503599627370496 := by omega
  rw [hm]
  have hs : (0 : Int) ≤ (if b = true then 9223372036854775808 else 0) ∧ (if b = true then (9223372036854775808 : Int) else 0) ≤ 9223372036854775808 ∧ (if b = true then (9223372036854775808 : Int) else 0) % 9223372036854775808 = 0 := by cases b <;> simp
  obtain ⟨s0, s1, s2⟩ := hs
  generalize (if b = true then (9223372036854775808 : Int) else 0) = s at *
  rw [or_join 63 s0 (by omega) (by omega) (by omega) (by omega) (by omega), or_join 52 (by omega) (by omega) (by omega) (by omega) (by omega) (by omega)]
theorem j4_small (k : Nat) (b : Bool) (m e : Int) (h0 : 0 ≤ m) (h1 : m < 4503599627370496) (h3 : e ≤ 971) : impl_RoundTo.j4 (k + 1) (if b = true then 9223372036854775808 else 0) e m = some ((if b = true then 9223372036854775808 else 0) + m) := by
  simp only [impl_RoundTo.j4]
  rw [if_neg (by omega), if_pos h1]
  have hs : (0 : Int) ≤ (if b = true then 9223372036854775808 else 0) ∧ (if b = true then (9223372036854775808 : Int) else 0) ≤ 9223372036854775808 ∧ (if b = true then (9223372036854775808 : Int) else 0) % 9223372036854775808 = 0 := by cases b <;> simp
  obtain ⟨s0, s1, s2⟩ := hs
  generalize (if b = true then (9223372036854775808 : Int) else 0) = s at *
  rw [or_join 63 s0 (by omega) (by omega) (by omega) (by omega) (by omega)]
theorem bitLen_53 {m : Nat} (h0 : 4503599627370496 ≤ m) (h1 : m < 9007199254740992) : Lib.bitLen m = 53 := by
  rw [Lib.bitLen_shift 52 m (by omega) (by omega)]
  have : m / 2 ^ 52 = 1 := by omega
  rw [this]
  decide
theorem bitLen_dbl {m : Nat} (h0 : 1 ≤ m) (h1 : m < 9007199254740992) : Lib.bitLen (2 * m) = 1 + Lib.bitLen m := by
  rw [Lib.bitLen_shift 1 (2 * m) (by omega) (by omega)]
  congr 2
  omega
theorem bitLen_256 {m lo : Nat} (h0 : 1 ≤ m) (h1 : m < 9007199254740992) (h2 : lo ≤ 1) : Lib.bitLen (256 * m + lo) = 8 + Lib.bitLen m := by
  rw [Lib.bitLen_shift 8 (256 * m + lo) (by omega) (by omega)]
  congr 2
  omega
/-- What the parts of a finite number are. -/
def Fin (m e : Int) : Prop := (4503599627370496 ≤ m ∧ m < 9007199254740992 ∧ -1074 ≤ e ∧ e ≤ 971) ∨ (1 ≤ m ∧ m < 4503599627370496 ∧ e = -1074)
def val (b : Bool) (m e : Int) : Int := if m < 4503599627370496 then (if b = true then 9223372036854775808 else 0) + m else (if b = true then 9223372036854775808 else 0) + (e + 1075) * 4503599627370496 + (m - 4503599627370496)
theorem len_of {m e : Int} (h : Fin m e) : 1 ≤ m ∧ m < 9007199254740992 ∧ -1074 ≤ e ∧ e ≤ 971 ∧ e + (Lib.bitLen m.toNat : Int) - 53 ≤ e ∧ (e = e + (Lib.bitLen m.toNat : Int) - 53 ∨ e = -1074) ∧ (Lib.bitLen m.toNat : Int) ≤ 53 := by
  rcases h with ⟨a, b, c, d⟩ | ⟨a, b, c⟩
  · have := bitLen_53 (m := m.toNat) (by omega) (by omega)
    omega
  · have := Lib.bitLen_le m.toNat 52 (by decide) (by omega)
    omega
theorem j4_ok (k : Nat) (b : Bool) {m e : Int} (h : Fin m e) : impl_RoundTo.j4 (k + 1) (if b = true then 9223372036854775808 else 0) e m = some (val b m e) := by
  unfold val
  rcases h with ⟨h1, h2, h3, h4⟩ | ⟨h1, h2, h3⟩
  · have hn : ¬ m < 4503599627370496 := by omega
    simp only [if_neg hn]
    exact j4_normal k b m e h1 h2 h3 h4
  · simp only [if_pos h2]
    exact j4_small k b m e (by omega) h2 (by omega)
theorem f_eq (k : Nat) (b : Bool) (x1 x2 : Int) (c : Bool) (hx : 1 ≤ x1) (h2 : -1200 ≤ x2) (h3 : x2 ≤ 1000) : impl_RoundTo.f (k + 2) b x1 x2 c = impl_RoundTo.j2 k (if c = true ∧ x1 ≥ 72057594037927936 then Go.bits .or .u64 x1 1 else x1) x2 (if b = true then 9223372036854775808 else 0) := by
  have hmx : mx (-5000) (mn x2 5000) = x2 := by
    unfold mx mn
    split <;> split <;> omega
  unfold impl_RoundTo.f
  cases b <;> cases c <;> simp only [Bool.false_eq_true, if_false, if_true, false_and, true_and, impl_RoundTo.j0, impl_RoundTo.j1, hmx]
  all_goals rw [if_neg (by omega)]
  all_goals by_cases hh : x1 ≥ 72057594037927936 <;> simp [hh]
theorem round0 (k : Nat) (b : Bool) {m e : Int} (h : Fin m e) : impl_RoundTo.f (k + 5) b m e false = some (val b m e) := by
  obtain ⟨a1, a2, a3, a4, a5, a6, a7⟩ := len_of h
  rw [f_eq (k + 3) b m e false a1 (by omega) (by omega)]
  simp only [Bool.false_eq_true, false_and, if_false]
  rw [j2_eq (k + 1) m e _ e m _ (by omega) (by omega) rfl (by omega) (by omega) (by omega) (by omega) a5 a3 a6 a2 (.inl ⟨rfl, rfl⟩)]
  exact j4_ok k b h
theorem round1 (k : Nat) (b : Bool) {m e : Int} (h : Fin m e) : impl_RoundTo.f (k + 5) b (IntKind.u64.wrap (2 * m)) (wrap64 (e - 1)) false = some (val b m e) := by
  obtain ⟨a1, a2, a3, a4, a5, a6, a7⟩ := len_of h
  rw [u64_id (n := 2 * m) (by omega) (by omega), wrap64_id (n := e - 1) (by omega) (by omega)]
  rw [f_eq (k + 3) b (2 * m) (e - 1) false (by omega) (by omega) (by omega)]
  simp only [Bool.false_eq_true, false_and, if_false]
  have hl : (Lib.bitLen (2 * m).toNat : Int) = 1 + (Lib.bitLen m.toNat : Int) := by
    rw [show (2 * m).toNat = 2 * m.toNat by omega, bitLen_dbl (by omega) (by omega)]
    omega
  rw [j2_eq (k + 1) (2 * m) (e - 1) _ e m _ (by omega) (by omega) hl (by omega) (by omega) (by omega) (by omega) (by omega) a3 (by omega) a2 (.inr ⟨by omega, by rw [show e - (e - 1) = 1 by omega]; exact halved1 (by omega) a2⟩)]
  exact j4_ok k b h
theorem round8 (k : Nat) (b : Bool) {m e : Int} (h : Fin m e) : impl_RoundTo.f (k + 5) b (IntKind.u64.wrap (256 * m)) (wrap64 (e - 8)) (decide (m ≥ 4503599627370496)) = some (val b m e) := by
  obtain ⟨a1, a2, a3, a4, a5, a6, a7⟩ := len_of h
  rw [u64_id (n := 256 * m) (by omega) (by omega), wrap64_id (n := e - 8) (by omega) (by omega)]
  rw [f_eq (k + 3) b (256 * m) (e - 8) _ (by omega) (by omega) (by omega)]
  obtain ⟨lo, hlo0, hlo1, hx⟩ : ∃ lo : Int, 0 ≤ lo ∧ lo ≤ 1 ∧ (if (decide (m ≥ 4503599627370496)) = true ∧ 256 * m ≥ 72057594037927936 then Go.bits .or .u64 (256 * m) 1 else 256 * m) = 256 * m + lo := by
    by_cases hc : (decide (m ≥ 4503599627370496)) = true ∧ 256 * m ≥ 72057594037927936
    · exact ⟨1, by omega, by omega, by rw [if_pos hc, or_join 8 (by omega) (by omega) (by omega) (by omega) (by decide) (by omega)]⟩
    · exact ⟨0, by omega, by omega, by rw [if_neg hc]; omega⟩
  rw [hx]
  have hl : (Lib.bitLen (256 * m + lo).toNat : Int) = 8 + (Lib.bitLen m.toNat : Int) := by
    rw [show (256 * m + lo).toNat = 256 * m.toNat + lo.toNat by omega, bitLen_256 (by omega) (by omega) (by omega)]
    omega
  rw [j2_eq (k + 1) (256 * m + lo) (e - 8) _ e m _ (by omega) (by omega) hl (by omega) (by omega) (by omega) (by omega) (by omega) a3 (by omega) a2 (.inr ⟨by omega, by rw [show e - (e - 8) = 8 by omega]; exact halved8 (by omega) a2 hlo0 hlo1⟩)]
  exact j4_ok k b h
theorem parts_fin {x : Int} (h0 : 0 ≤ x) (h1 : x < 18446744073709551616) (hk : (PN x).1 = 4) : Fin (PN x).2.2.1 (PN x).2.2.2 ∧ val (PN x).2.1 (PN x).2.2.1 (PN x).2.2.2 = x := by
  unfold PN at hk ⊢
  have hb : x / 9223372036854775808 = 0 ∨ x / 9223372036854775808 = 1 := by omega
  by_cases h2 : x / 4503599627370496 % 2048 = 2047
  · rw [if_pos h2] at hk
    by_cases h3 : x % 4503599627370496 = 0
    · rw [if_pos h3] at hk
      simp at hk
    · rw [if_neg h3] at hk
      simp at hk
  · rw [if_neg h2] at hk ⊢
    by_cases h4 : x / 4503599627370496 % 2048 = 0
    · rw [if_pos h4] at hk ⊢
      by_cases h3 : x % 4503599627370496 = 0
      · rw [if_pos h3] at hk
        simp at hk
      · rw [if_neg h3]
        dsimp only
        refine ⟨.inr ⟨by omega, by omega, rfl⟩, ?_⟩
        unfold val
        rw [if_pos (by omega)]
        rcases hb with hb | hb <;> rw [hb] <;> simp <;> omega
    · rw [if_neg h4]
      dsimp only
      refine ⟨.inl ⟨by omega, by omega, by omega, by omega⟩, ?_⟩
      unfold val
      rw [if_neg (by omega)]
      rcases hb with hb | hb <;> rw [hb] <;> simp <;> omega
end Go.Proofs.Ytdgjbpefbkgnpaa.Pure.Round
