/- Part 2 of the proof: general lemmas, contracts of functions, walks. No condition of its own. -/
import Derived.Laws.BitsAllLaws
import Derived.Laws.Bits64
import Derived.RowKit
import Derived.Test.YtcbaokflimdjnaaBi1
section
namespace Go.Proofs.Ytcbaokflimdjnaa.Num
open Go.RowKit
set_option linter.unusedVariables false
set_option linter.unusedSimpArgs false
theorem wrap64_id {n : Int} (h0 : -9223372036854775808 ≤ n) (h1 : n ≤ 9223372036854775807) : wrap64 n = n := by unfold wrap64; omega
theorem u64_id {n : Int} (h0 : 0 ≤ n) (h1 : n < 18446744073709551616) : IntKind.u64.wrap n = n := by rw [IntKind.wrap_u64]; omega
theorem tdiv_pos {a b : Int} (h : 0 ≤ a) : Int.tdiv a b = a / b := Int.tdiv_eq_ediv_of_nonneg h
theorem tmod_pos {a b : Int} (h : 0 ≤ a) : Int.tmod a b = a % b := Int.tmod_eq_emod_of_nonneg h
theorem and_mask (i m : Nat) (hm : m = 2 ^ i - 1) (hi : m < 18446744073709551616) {a : Int} (h0 : 0 ≤ a) (h1 : a < 18446744073709551616) : Go.bits .and .u64 a (m : Int) = a % ((2 ^ i : Nat) : Int) := by
  rw [u64_and a (m : Int) h0 h1 (by omega) (by omega)]
  rw [show ((m : Int)).toNat = 2 ^ i - 1 by omega, Nat.and_two_pow_sub_one_eq_mod]
  rw [Int.natCast_emod]
  congr 1
  omega
theorem and_63 {a : Int} (h0 : 0 ≤ a) (h1 : a < 18446744073709551616) : Go.bits .and .u64 a 9223372036854775807 = a % 9223372036854775808 := and_mask 63 9223372036854775807 (by decide) (by decide) h0 h1
theorem wf_u64 {n : Int} (h : (Lit.int .u64 n).wf = true) : 0 ≤ n ∧ n < 18446744073709551616 := by
  simp only [Lit.wf, Bool.and_eq_true, decide_eq_true_eq] at h
  have h1 : IntKind.u64.min = 0 := rfl
  have h2 : IntKind.u64.max = 18446744073709551615 := rfl
  omega
/-- A number's parts: kind, sign, mantissa, exponent. -/
def PN (x : Int) : Int × Bool × Int × Int :=
  if x / 4503599627370496 % 2048 = 2047 then (if x % 4503599627370496 = 0 then (2, (x / 9223372036854775808) == 1, 0, 0) else (1, false, 0, 0))
  else if x / 4503599627370496 % 2048 = 0 then (if x % 4503599627370496 = 0 then (3, (x / 9223372036854775808) == 1, 0, 0) else (4, (x / 9223372036854775808) == 1, x % 4503599627370496, -1074))
  else (4, (x / 9223372036854775808) == 1, x % 4503599627370496 + 4503599627370496, x / 4503599627370496 % 2048 - 1075)
/-- Is a number none? -/
def isNan (x : Int) : Bool := decide (x % 9223372036854775808 > 9218868437227405312)
theorem PN_nan {x : Int} (h0 : 0 ≤ x) : ((PN x).1 == 1) = isNan x := by
  unfold PN isNan
  by_cases h1 : x / 4503599627370496 % 2048 = 2047
  · by_cases h2 : x % 4503599627370496 = 0
    · rw [if_pos h1, if_pos h2]
      have : ¬ (x % 9223372036854775808 > 9218868437227405312) := by omega
      simp [this]
    · rw [if_pos h1, if_neg h2]
      have : x % 9223372036854775808 > 9218868437227405312 := by omega
      simp [this]
  · rw [if_neg h1]
    have : ¬ (x % 9223372036854775808 > 9218868437227405312) := by omega
    by_cases h2 : x / 4503599627370496 % 2048 = 0
    · by_cases h3 : x % 4503599627370496 = 0 <;> simp [h2, h3, this]
    · simp [h2, this]
end Go.Proofs.Ytcbaokflimdjnaa.Num
end
