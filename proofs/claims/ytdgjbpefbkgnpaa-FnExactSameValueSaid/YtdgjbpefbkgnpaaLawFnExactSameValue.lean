/- The law 'FnExactSameValue' returns true, whatever it is handed. No condition beyond what the arguments read as. -/
import Derived.Test.YtdgjbpefbkgnpaaWalkFnExactSameValue
import Derived.Test.YtdgjbpefbkgnpaaNum
import Derived.Test.YtdgjbpefbkgnpaaFloat
namespace Go.Proofs.Ytdgjbpefbkgnpaa.LawFnExactSameValue
open Go.RowKit Go.Proofs.YtdgjbpefbkgnpaaW.PrintWords Go.Proofs.YtdgjbpefbkgnpaaW.PrintMore Go.Proofs.Ytdgjbpefbkgnpaa.QFnExactSameValue Go.Proofs.Ytdgjbpefbkgnpaa.Num
set_option linter.unusedVariables false
set_option linter.unusedSimpArgs false
theorem pow63 : spec_l03Pow.f 100 63 = some 9223372036854775808 := by decide +kernel
theorem spec_parts {x : Int} (h0 : 0 ≤ x) (h1 : x < 18446744073709551616) : spec_PartsOfNumber.f 100 x = some (PN x) := by
  unfold spec_PartsOfNumber.f
  have hq := Int.emod_lt_of_pos x (show (0 : Int) < 4503599627370496 by omega)
  have hq0 := Int.emod_nonneg x (show (4503599627370496 : Int) ≠ 0 by omega)
  have e1 : wrap64 (Int.tmod (IntKind.u64.wrap (Int.tdiv x 4503599627370496)) 2048) = x / 4503599627370496 % 2048 := by
    rw [tdiv_pos h0, u64_id (by omega) (by omega), tmod_pos (by omega), wrap64_id (by omega) (by omega)]
  have e2 : Int.tmod x 4503599627370496 = x % 4503599627370496 := tmod_pos h0
  have e3 : IntKind.u64.wrap (Int.tdiv x 9223372036854775808) = x / 9223372036854775808 := by rw [tdiv_pos h0, u64_id (by omega) (by omega)]
  rw [pow63]
  simp only [Option.bind_some, e1, e2, e3]
  rw [if_neg (by omega)]
  unfold PN
  by_cases h2 : x / 4503599627370496 % 2048 = 2047
  · rw [if_pos h2, if_pos h2]
    by_cases h3 : x % 4503599627370496 = 0
    · simp only [spec_PartsOfNumber.j0, h3, bne_self_eq_false, Bool.false_eq_true, if_false, h2, if_true]
    · simp only [spec_PartsOfNumber.j0, (bne_iff_ne.mpr h3), if_true, if_neg h3]
  · rw [if_neg h2, if_neg h2]
    by_cases h4 : x / 4503599627370496 % 2048 = 0
    · by_cases h3 : x % 4503599627370496 = 0
      · simp [spec_PartsOfNumber.j0, spec_PartsOfNumber.j1, h4, h3]
      · simp [spec_PartsOfNumber.j0, spec_PartsOfNumber.j1, h4, h3]
    · rw [if_neg h4]
      simp only [spec_PartsOfNumber.j0, spec_PartsOfNumber.j1, Bool.false_eq_true, if_false, if_neg h2, if_neg h4]
      rw [u64_id (by omega) (by omega), wrap64_id (by omega) (by omega)]
theorem spec_nan {x : Int} (h0 : 0 ≤ x) (h1 : x < 18446744073709551616) : spec_l03Nan.f 100 x = some (isNan x) := by
  unfold spec_l03Nan.f
  rw [spec_parts h0 h1]
  simp only [Option.bind_some]
  rw [PN_nan h0]
/-- The reference's key of a number, as a whole number. -/
def keyI (x : Int) : Int := if x ≥ 9223372036854775808 then -(x - 9223372036854775808) else x
theorem spec_key {x : Int} (h0 : 0 ≤ x) (h1 : x < 18446744073709551616) : spec_l03Key.f 100 x = some (keyI x) := by
  unfold spec_l03Key.f keyI
  rw [pow63]
  simp only [Option.bind_some]
  by_cases h : x ≥ 9223372036854775808
  · rw [if_pos h, if_pos h, u64_id (by omega) (by omega), wrap64_id (n := x - 9223372036854775808) (by omega) (by omega), wrap64_id (by omega) (by omega)]
  · rw [if_neg h, if_neg h, wrap64_id (by omega) (by omega)]
theorem key_keyN {x : Int} (h0 : 0 ≤ x) (h1 : x < 18446744073709551616) : keyI x = Go.Proofs.Ytdgjbpefbkgnpaa.Float.keyN x.toNat := by
  unfold keyI Go.Proofs.Ytdgjbpefbkgnpaa.Float.keyN Go.Proofs.Ytdgjbpefbkgnpaa.Float.sg
  by_cases h : x ≥ 9223372036854775808
  · have e : (x.toNat / 9223372036854775808 % 2 == 1) = true := by rw [beq_iff_eq]; omega
    rw [if_pos h, e]
    simp only [if_true]
    omega
  · have e : (x.toNat / 9223372036854775808 % 2 == 1) = false := by rw [beq_eq_false_iff_ne]; omega
    rw [if_neg h, e]
    simp only [Bool.false_eq_true, if_false]
    omega
theorem nan_nanN {x : Int} (h0 : 0 ≤ x) : isNan x = Go.Proofs.Ytdgjbpefbkgnpaa.Float.nanN x.toNat := by
  unfold isNan Go.Proofs.Ytdgjbpefbkgnpaa.Float.nanN
  rw [decide_eq_decide]
  omega
theorem spec_equal {x y : Int} (h0 : 0 ≤ x) (h1 : x < 18446744073709551616) (g0 : 0 ≤ y) (g1 : y < 18446744073709551616) : spec_Equal.f 100 x y = some (Ieee.double.order x.toNat y.toNat == some .eq) := by
  unfold spec_Equal.f
  rw [spec_nan h0 h1, spec_nan g0 g1, spec_key h0 h1, spec_key g0 g1, key_keyN h0 h1, key_keyN g0 g1, nan_nanN h0, nan_nanN g0]
  simp only [Option.bind_some]
  cases hx : Go.Proofs.Ytdgjbpefbkgnpaa.Float.nanN x.toNat
  · cases hy : Go.Proofs.Ytdgjbpefbkgnpaa.Float.nanN y.toNat
    · simp only [Bool.false_eq_true, if_false]
      rw [Go.Proofs.Ytdgjbpefbkgnpaa.Float.order_key hx hy]
      congr 1
      rw [Bool.eq_iff_iff]
      simp only [beq_iff_eq, Option.some.injEq]
      generalize Go.Proofs.Ytdgjbpefbkgnpaa.Float.keyN x.toNat = a
      generalize Go.Proofs.Ytdgjbpefbkgnpaa.Float.keyN y.toNat = b
      show _ ↔ compareOfLessAndEq a b = .eq
      unfold compareOfLessAndEq
      by_cases e1 : a < b
      · rw [if_pos e1]
        constructor
        · intro e
          omega
        · intro e
          cases e
      · rw [if_neg e1]
        by_cases e2 : a = b
        · simp [e2]
        · simp [e2]
    · simp only [Bool.false_eq_true, if_false, if_true]
      rw [Go.Proofs.Ytdgjbpefbkgnpaa.Float.order_nan_right _ hy]
      rfl
  · simp only [if_true]
    rw [Go.Proofs.Ytdgjbpefbkgnpaa.Float.order_nan_left _ hx]
    rfl
theorem same (a0_0 a0_1 : Int) (a0_2 : ByteArray) (a0_3 : Int) (a1_0 a1_1 : Int) (a1_2 : ByteArray) (a1_3 : Int) (h0 : 0 ≤ a0_1) (h1 : a0_1 < 18446744073709551616) (g0 : 0 ≤ a1_1) (g1 : a1_1 < 18446744073709551616) :
    spec_SameValue.f 100 a0_0 a0_1 a0_2 a0_3 a1_0 a1_1 a1_2 a1_3 = some (WalkFnExactSameValue.same a0_0 a0_1 a0_3 a1_0 a1_1 a1_3 a0_2 a1_2) := by
  unfold spec_SameValue.f WalkFnExactSameValue.same
  rw [spec_equal h0 h1 g0 g1]
  by_cases e : a0_0 = a1_0
  · rw [if_pos e]
    by_cases e2 : a0_0 = 2
    · rw [if_pos e2, if_pos ⟨e2, by omega⟩]
      rfl
    · have hc : ¬ (a0_0 = 2 ∧ a1_0 = 2) := fun h => e2 h.1
      rw [if_neg e2, if_neg hc]
      by_cases e3 : a0_1 = a1_1
      · by_cases e4 : a0_2.toList = a1_2.toList
        · simp [e, e3, e4]
        · simp [e, e3, e4]
      · simp [e, e3]
  · have hc : ¬ (a0_0 = 2 ∧ a1_0 = 2) := fun h => e (by omega)
    rw [if_neg e, if_neg hc]
    simp [e]
theorem law (a0_0 a0_1 : Int) (a0_2 : ByteArray) (a0_3 : Int) (a1_0 a1_1 : Int) (a1_2 : ByteArray) (a1_3 : Int) (w : World)
    (g0 : (Lit.int .i64 a0_0).wf = true ∧ (Lit.int .u64 a0_1).wf = true ∧ a0_2.size ≤ maxLen ∧ (Lit.int .i64 a0_3).wf = true) (g1 : (Lit.int .i64 a1_0).wf = true ∧ (Lit.int .u64 a1_1).wf = true ∧ a1_2.size ≤ maxLen ∧ (Lit.int .i64 a1_3).wf = true) :
    Calls Try.prog 4 #[.agg #[.int .i64 a0_0, .int .u64 a0_1, .string a0_2, .int .i64 a0_3], .agg #[.int .i64 a1_0, .int .u64 a1_1, .string a1_2, .int .i64 a1_3]] w fun e w' => e = .returned (.bool true) ∧ Below w.heap.size w w' := by
  obtain ⟨s1, h1⟩ : ∃ s, laws_szValue.f a0_0 a0_1 a0_2 a0_3 1048576 = some s := by unfold laws_szValue.f; split <;> exact ⟨_, rfl⟩
  by_cases n1 : s1 < 0
  · exact WalkFnExactSameValue.w1 0 _ _ _ _ _ _ _ _ w s1 h1 n1
  · obtain ⟨s2, h2⟩ : ∃ s, laws_szValue.f a1_0 a1_1 a1_2 a1_3 s1 = some s := by unfold laws_szValue.f; split <;> exact ⟨_, rfl⟩
    by_cases n2 : s2 < 0
    · exact WalkFnExactSameValue.w2 0 _ _ _ _ _ _ _ _ w s1 h1 (by omega) s2 h2 n2
    · exact WalkFnExactSameValue.w3 100 _ _ _ _ _ _ _ _ w s1 h1 (by omega) s2 h2 (by omega) _ (same _ _ _ _ _ _ _ _ (wf_u64 g0.2.1).1 (wf_u64 g0.2.1).2 (wf_u64 g1.2.1).1 (wf_u64 g1.2.1).2) rfl
end Go.Proofs.Ytdgjbpefbkgnpaa.LawFnExactSameValue
