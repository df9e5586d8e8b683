/- The law 'FnExactJoin' returns true, whatever it is handed. No condition beyond what the arguments read as. -/
import Derived.Test.YtdgjbpefbkgnpaaWalkFnExactJoin
namespace Go.Proofs.Ytdgjbpefbkgnpaa.LawFnExactJoin
open Go.RowKit Go.Proofs.YtdgjbpefbkgnpaaW.PrintWords Go.Proofs.YtdgjbpefbkgnpaaW.PrintMore Go.Proofs.Ytdgjbpefbkgnpaa.Law
set_option linter.unusedVariables false
theorem law (a0_0 : Int) (A0_1 : Option Addr) (c0_1 : Nat) (l0_1 : List Int) (a1_0 : Int) (A1_1 : Option Addr) (c1_1 : Nat) (l1_1 : List Int) (w : World) (hr0_1 : Kd.C (Kd.int .i64) w A0_1 l0_1.length l0_1) (hc0_1 : l0_1.length ≤ c0_1) (hr1_1 : Kd.C (Kd.int .i64) w A1_1 l1_1.length l1_1) (hc1_1 : l1_1.length ≤ c1_1)
    (g0 : (Lit.int .i64 a0_0).wf = true ∧ (l0_1.length ≤ maxLen ∧ ∀ x ∈ l0_1, (Lit.int .i64 x).wf = true)) (g1 : (Lit.int .i64 a1_0).wf = true ∧ (l1_1.length ≤ maxLen ∧ ∀ x ∈ l1_1, (Lit.int .i64 x).wf = true)) :
    Calls Try.prog 10 #[.agg #[.int .i64 a0_0, .slice A0_1 l0_1.length c0_1], .agg #[.int .i64 a1_0, .slice A1_1 l1_1.length c1_1]] w fun e w' => e = .returned (.bool true) ∧ Below w.heap.size w w' := by
  have hx := kStateL_mk w ⟨a0_0, l0_1⟩ hc0_1 hr0_1
  have hy := kStateL_mk w ⟨a1_0, l1_1⟩ hc1_1 hr1_1
  have ex : sizeState ⟨a0_0, l0_1⟩ = l0_1.length := rfl
  have ey : sizeState ⟨a1_0, l1_1⟩ = l1_1.length := rfl
  by_cases n1 : (1048576 : Int) < (sizeState ⟨a0_0, l0_1⟩ : Int)
  · exact WalkFnExactJoin.w1 ⟨a0_0, l0_1⟩ ⟨a1_0, l1_1⟩ A0_1 A1_1 c0_1 c1_1 w hx hy (by unfold sub; rw [if_pos n1])
  · have e1 : sub 1048576 (sizeState ⟨a0_0, l0_1⟩) = 1048576 - (sizeState ⟨a0_0, l0_1⟩ : Int) := by unfold sub; rw [if_neg n1]
    by_cases n2 : 1048576 - (sizeState ⟨a0_0, l0_1⟩ : Int) < (sizeState ⟨a1_0, l1_1⟩ : Int)
    · exact WalkFnExactJoin.w2 ⟨a0_0, l0_1⟩ ⟨a1_0, l1_1⟩ A0_1 A1_1 c0_1 c1_1 w hx hy _ e1 (by omega) (by omega) (by unfold sub; rw [if_pos n2])
    · have e2 : sub (1048576 - (sizeState ⟨a0_0, l0_1⟩ : Int)) (sizeState ⟨a1_0, l1_1⟩) = 1048576 - (sizeState ⟨a0_0, l0_1⟩ : Int) - (sizeState ⟨a1_0, l1_1⟩ : Int) := by unfold sub; rw [if_neg n2]
      exact WalkFnExactJoin.w3 ⟨a0_0, l0_1⟩ ⟨a1_0, l1_1⟩ A0_1 A1_1 c0_1 c1_1 w hx hy _ _ e1 (by omega) (by omega) e2 (by omega) (by show l0_1.length ≤ _; omega) (by show l1_1.length ≤ _; omega)
end Go.Proofs.Ytdgjbpefbkgnpaa.LawFnExactJoin
