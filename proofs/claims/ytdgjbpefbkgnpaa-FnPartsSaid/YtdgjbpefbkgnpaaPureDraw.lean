/- The reference's RoundTo of what is drawn ends, and is of 64 bits. No condition beyond the bounds told. -/
import Derived.Test.YtdgjbpefbkgnpaaPureRound
import Derived.Test.YtdgjbpefbkgnpaaQFnPartsx4
namespace Go.Proofs.Ytdgjbpefbkgnpaa.Pure.Draw
open Go.RowKit Go.Proofs.Ytdgjbpefbkgnpaa.QFnParts Go.Proofs.Ytdgjbpefbkgnpaa.Num Go.Proofs.YtdgjbpefbkgnpaaW.PrintWords Go.Proofs.YtdgjbpefbkgnpaaW.PrintMore
set_option linter.unusedVariables false
set_option linter.unusedSimpArgs false
theorem pow_up {a r : Int} {k : Nat} (n : Nat) (h : spec_l03Pow.f k a = some r) : spec_l03Pow.f (k + n) a = some r := by
  induction n with
  | zero => exact h
  | succ n ih => exact spec_l03Pow.mono a (k + n) r ih
theorem pow63 {k : Nat} (hk : 100 ≤ k) : spec_l03Pow.f k 63 = some 9223372036854775808 := by
  obtain ⟨n, rfl⟩ : ∃ n, k = 100 + n := ⟨k - 100, by omega⟩
  exact pow_up n (by decide +kernel)
def W (r : Int) : Prop := 0 ≤ r ∧ r < 18446744073709551616
theorem wrapW (n : Int) : W (IntKind.u64.wrap n) := by
  unfold W
  rw [IntKind.wrap_u64]
  omega
theorem sign_ok {k : Nat} (hk : 100 ≤ k) {a : Int} (h : W a) (b : Bool) : ∃ r, spec_l03Sign.f k a b = some r ∧ W r := by
  unfold spec_l03Sign.f
  cases b
  · exact ⟨a, rfl, h⟩
  · rw [if_pos rfl, pow63 hk]
    exact ⟨_, rfl, wrapW _⟩
theorem j9_ok {k : Nat} (hk : 101 ≤ k) (b : Bool) {x : Int} (e : Int) (h0 : 0 ≤ x) (h1 : x < 9007199254740992) : ∃ r, spec_RoundTo.j9 k b x e = some r ∧ W r := by
  obtain ⟨k, rfl⟩ : ∃ m, k = m + 1 := ⟨k - 1, by omega⟩
  simp only [spec_RoundTo.j9]
  by_cases c : x < 4503599627370496
  · rw [if_pos c]
    obtain ⟨r, hr, hw⟩ := sign_ok (k := k) (by omega) (a := x) ⟨h0, by omega⟩ b
    rw [hr]
    exact ⟨r, rfl, hw⟩
  · rw [if_neg c]
    by_cases c2 : e > 971
    · rw [if_pos c2]
      obtain ⟨r, hr, hw⟩ := sign_ok (k := k) (by omega) (a := 9218868437227405312) ⟨by omega, by omega⟩ b
      rw [hr]
      exact ⟨r, rfl, hw⟩
    · rw [if_neg c2]
      obtain ⟨r, hr, hw⟩ := sign_ok (k := k) (by omega) (wrapW (IntKind.u64.wrap (x - 4503599627370496) + IntKind.u64.wrap (IntKind.u64.wrap (wrap64 (e + 1075)) * 4503599627370496))) b
      rw [hr]
      exact ⟨r, rfl, hw⟩
theorem j4_ok {k : Nat} (hk : 110 ≤ k) (b : Bool) {x e : Int} (h0 : 0 ≤ x) (h1 : x < 9007199254740992) (h2 : -1074 ≤ e) : ∃ r, spec_RoundTo.j4 k b x e false = some r ∧ W r := by
  obtain ⟨k, rfl⟩ : ∃ m, k = m + 5 := ⟨k - 5, by omega⟩
  obtain ⟨r, hr, hw⟩ := j9_ok (k := k) (by omega) b e h0 h1
  refine ⟨r, ?_, hw⟩
  simp only [spec_RoundTo.j4, spec_RoundTo.l1]
  rw [if_neg (by omega), decide_eq_false (by omega : ¬ e < -1074)]
  simp only [spec_RoundTo.j6, Bool.false_eq_true, if_false, spec_RoundTo.j7, spec_RoundTo.j8]
  rw [if_neg (by omega)]
  exact hr
theorem l0_ok (b : Bool) (d : Nat) : ∀ (k : Nat) (x e : Int), 120 + d ≤ k → 1 ≤ x → x < 9007199254740992 → 4503599627370496 ≤ x * 2 ^ d → -1000 + (d : Int) ≤ e → e ≤ 1000 → ∃ r, spec_RoundTo.l0 k b x e false = some r ∧ W r := by
  induction d with
  | zero =>
    intro k x e hk h0 h1 h2 h3 h4
    obtain ⟨k, rfl⟩ : ∃ m, k = m + 1 := ⟨k - 1, by omega⟩
    simp only [spec_RoundTo.l0]
    rw [if_neg (by omega)]
    exact j4_ok (by omega) b (by omega) h1 (by omega)
  | succ d ih =>
    intro k x e hk h0 h1 h2 h3 h4
    obtain ⟨k, rfl⟩ : ∃ m, k = m + 1 := ⟨k - 1, by omega⟩
    simp only [spec_RoundTo.l0]
    by_cases c : x < 4503599627370496
    · rw [if_pos c, if_pos (by omega), u64_id (n := x * 2) (by omega) (by omega)]
      rw [wrap64_id (n := e - 1) (by omega) (by omega)]
      refine ih k (x * 2) (e - 1) (by omega) (by omega) (by omega) ?_ (by omega) (by omega)
      rw [Int.mul_assoc, show (2 : Int) * 2 ^ d = 2 ^ (d + 1) by rw [Int.pow_succ]; omega]
      exact h2
    · rw [if_neg c]
      exact j4_ok (by omega) b (by omega) h1 (by omega)
theorem round_ok {k : Nat} (hk : 200 ≤ k) (b : Bool) {x e : Int} (h0 : 0 ≤ x) (h1 : x < 9007199254740992) (h2 : -100 ≤ e) (h3 : e ≤ 100) : ∃ r, spec_RoundTo.f k b x e false = some r ∧ W r := by
  obtain ⟨k, rfl⟩ : ∃ m, k = m + 3 := ⟨k - 3, by omega⟩
  unfold spec_RoundTo.f
  rw [if_neg (by omega)]
  simp only [spec_RoundTo.j0]
  rw [if_neg (by omega)]
  simp only [spec_RoundTo.j1, Bool.false_eq_true, if_false, spec_RoundTo.j2]
  by_cases c : x = 0
  · rw [if_pos c]
    obtain ⟨r, hr, hw⟩ := sign_ok (k := k) (by omega) (a := 0) ⟨by omega, by omega⟩ b
    rw [hr]
    exact ⟨r, rfl, hw⟩
  · rw [if_neg c]
    exact l0_ok b 52 k x e (by omega) (by omega) h1 (by omega) (by omega) (by omega)
end Go.Proofs.Ytdgjbpefbkgnpaa.Pure.Draw
