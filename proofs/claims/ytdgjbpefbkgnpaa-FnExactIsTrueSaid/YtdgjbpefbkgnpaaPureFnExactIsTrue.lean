/- What the law 'FnExactIsTrue' comes to is true, for all numbers and texts. -/
import Derived.Test.YtdgjbpefbkgnpaaQFnExactIsTruex2
import Derived.Test.YtdgjbpefbkgnpaaNum
namespace Go.Proofs.Ytdgjbpefbkgnpaa.Pure.FnExactIsTrue
open Go.RowKit Go.Proofs.Ytdgjbpefbkgnpaa.QFnExactIsTrue Go.Proofs.Ytdgjbpefbkgnpaa.Num
set_option linter.unusedVariables false
set_option linter.unusedSimpArgs false
theorem pow63 : spec_l03Pow.f 100 63 = some 9223372036854775808 := by decide +kernel
theorem spec_parts {x : Int} (h0 : 0 ≤ x) (h1 : x < 18446744073709551616) : spec_PartsOfNumber.f 100 x = some (PN x) := by
  unfold spec_PartsOfNumber.f
  have hq := Int.emod_lt_of_pos x (show (0 : Int) < 4503599627370496 by omega)
  have hq0 := Int.emod_nonneg x (show (4503599627370496 : Int) ≠ 0 by omega)
  have e1 : wrap64 (Int.tmod (IntKind.u64.wrap (Int.tdiv x 4503599627370496)) 2048) = x / 4503599627370496 % 2048 := by
    rw [tdiv_pos h0, u64_id (by omega) (by omega), tmod_pos (by omega), wrap64_id (by omega) (by omega)]
  have e2 : Int.tmod x 4503599627370496 = x % 4503599627370496 := tmod_pos h0
  have e3 : IntKind.u64.wrap (Int.tdiv x 9223372036854775808) = x / 9223372036854775808 := by rw [tdiv_pos h0, u64_id (by omega) (by omega)]
  rw [pow63]
  simp only [Option.bind_some, e1, e2, e3]
  rw [if_neg (by omega)]
  unfold PN
  by_cases h2 : x / 4503599627370496 % 2048 = 2047
  · rw [if_pos h2, if_pos h2]
    by_cases h3 : x % 4503599627370496 = 0
    · simp only [spec_PartsOfNumber.j0, h3, bne_self_eq_false, Bool.false_eq_true, if_false, h2, if_true]
    · simp only [spec_PartsOfNumber.j0, (bne_iff_ne.mpr h3), if_true, if_neg h3]
  · rw [if_neg h2, if_neg h2]
    by_cases h4 : x / 4503599627370496 % 2048 = 0
    · by_cases h3 : x % 4503599627370496 = 0
      · simp [spec_PartsOfNumber.j0, spec_PartsOfNumber.j1, h4, h3]
      · simp [spec_PartsOfNumber.j0, spec_PartsOfNumber.j1, h4, h3]
    · rw [if_neg h4]
      simp only [spec_PartsOfNumber.j0, spec_PartsOfNumber.j1, Bool.false_eq_true, if_false, if_neg h2, if_neg h4]
      rw [u64_id (by omega) (by omega), wrap64_id (by omega) (by omega)]
theorem impl_nan {x : Int} (h0 : 0 ≤ x) (h1 : x < 18446744073709551616) : impl_isNaN.f x = some (isNan x) := by
  unfold impl_isNaN.f isNan
  rw [and_63 h0 h1]
theorem impl_parts {x : Int} (h0 : 0 ≤ x) (h1 : x < 18446744073709551616) : impl_PartsOfNumber.f 100 x = some (PN x) := by
  unfold impl_PartsOfNumber.f
  have hb := PN_nan h0
  have e1 : wrap64 (Go.bits .and .u64 (x / 4503599627370496) 2047) = x / 4503599627370496 % 2048 := by
    rw [and_2047 (by omega) (by omega), wrap64_id (by omega) (by omega)]
  have e2 : Go.bits .and .u64 x 4503599627370495 = x % 4503599627370496 := and_52 h0 h1
  rw [impl_nan h0 h1]
  simp only [Option.bind_some, e1, e2]
  rw [← hb]
  unfold PN
  by_cases h2 : x / 4503599627370496 % 2048 = 2047
  · by_cases h3 : x % 4503599627370496 = 0
    · simp [h2, h3]
    · simp [h2, h3]
  · by_cases h4 : x / 4503599627370496 % 2048 = 0
    · by_cases h3 : x % 4503599627370496 = 0
      · simp [impl_PartsOfNumber.j0, h4, h3]
      · simp [impl_PartsOfNumber.j0, h4, h3]
    · rw [if_neg h2, if_neg h4]
      simp only [impl_PartsOfNumber.j0, if_neg h2, if_neg h4, Bool.false_eq_true, if_false]
      rw [or_52 (by omega) (by omega), wrap64_id (by omega) (by omega)]
      simp
theorem truthy {x : Int} (h0 : 0 ≤ x) (h1 : x < 18446744073709551616) : spec_Truthy.f 100 x = impl_Truthy.f 100 x ∧ ∃ r, impl_Truthy.f 100 x = some r := by
  unfold spec_Truthy.f impl_Truthy.f
  rw [spec_parts h0 h1, impl_parts h0 h1]
  simp only [Option.bind_some]
  unfold PN
  by_cases h2 : x / 4503599627370496 % 2048 = 2047
  · by_cases h3 : x % 4503599627370496 = 0 <;> simp [h2, h3]
  · by_cases h4 : x / 4503599627370496 % 2048 = 0
    · by_cases h3 : x % 4503599627370496 = 0 <;> simp [h4, h3]
    · simp [h2, h4]
theorem law (a b : Int) (s : ByteArray) (c : Int) (h0 : 0 ≤ b) (h1 : b < 18446744073709551616) : laws_FnExactIsTrue.f 100 a b s c = some true := by
  unfold laws_FnExactIsTrue.f laws_szValue.f laws_toValue.f spec_IsTrue.f impl_IsTrue.f
  obtain ⟨e, r, hr⟩ := truthy h0 h1
  by_cases hz : (wrap64 (1048576 - (s.size : Int))) < 0
  · simp [hz]
  · simp only [hz, if_false, Option.bind_some, e, hr]
    by_cases a0 : a = 0
    · simp [a0]
    · by_cases a1 : a = 1
      · simp [a1]
      · by_cases a2 : a = 2
        · simp [a2]
        · by_cases a3 : a = 3
          · simp [a3]
          · simp [a0, a1, a2, a3]
end Go.Proofs.Ytdgjbpefbkgnpaa.Pure.FnExactIsTrue
namespace Go.Proofs.Ytdgjbpefbkgnpaa.Pure
open Go.Proofs.Ytdgjbpefbkgnpaa.Num
theorem FnExactIsTrue (a b : Int) (s : ByteArray) (c : Int) (h : (Lit.int .i64 a).wf = true ∧ (Lit.int .u64 b).wf = true ∧ s.size ≤ maxLen ∧ (Lit.int .i64 c).wf = true) : ∃ k, QFnExactIsTrue.laws_FnExactIsTrue.f k a b s c = some true :=
  ⟨100, FnExactIsTrue.law a b s c (wf_u64 h.2.1).1 (wf_u64 h.2.1).2⟩
end Go.Proofs.Ytdgjbpefbkgnpaa.Pure
