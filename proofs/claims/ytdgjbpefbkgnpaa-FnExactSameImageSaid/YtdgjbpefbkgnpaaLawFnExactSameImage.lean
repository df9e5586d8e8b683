/- The law 'FnExactSameImage' returns true, whatever it is handed. No condition beyond what the arguments read as. -/
import Derived.Test.YtdgjbpefbkgnpaaWalkFnExactSameImage
namespace Go.Proofs.Ytdgjbpefbkgnpaa.LawFnExactSameImage
open Go.RowKit Go.Proofs.YtdgjbpefbkgnpaaW.PrintWords Go.Proofs.YtdgjbpefbkgnpaaW.PrintMore Go.Proofs.Ytdgjbpefbkgnpaa.Law
set_option linter.unusedVariables false
theorem le_sum {l : List Func} {y : Func} (h : y ∈ l) : sizeFunc y ≤ (l.map sizeFunc).sum := by
  induction l with
  | nil => cases h
  | cons a l ih =>
    rw [List.map_cons, List.sum_cons]
    rcases List.mem_cons.1 h with rfl | h
    · omega
    · have := ih h
      omega
theorem len_ok {x : Image} (h : (sizeImage x : Int) ≤ 1048576) : LenImage x := by
  have e : sizeImage x = x.funcs.length + (x.funcs.map sizeFunc).sum + (x.consts.length + (x.consts.map sizeConst).sum) := rfl
  refine ⟨by omega, fun y hy => ?_, by omega⟩
  have h1 := le_sum hy
  have e2 : sizeFunc y = y.caps.length + y.code.length + y.handlers.length := rfl
  exact ⟨by omega, by omega, by omega⟩
theorem law {GF : Func → Prop} (A0_0 : Option Addr) (c0_0 : Nat) (l0_0 : List Func) (A0_1 : Option Addr) (c0_1 : Nat) (l0_1 : List Const) (A1_0 : Option Addr) (c1_0 : Nat) (l1_0 : List Func) (A1_1 : Option Addr) (c1_1 : Nat) (l1_1 : List Const) (w : World)
    (hr0_0 : kFuncL.C w A0_0 l0_0.length l0_0) (hc0_0 : l0_0.length ≤ c0_0) (hr0_1 : kConst.C w A0_1 l0_1.length l0_1) (hc0_1 : l0_1.length ≤ c0_1) (hr1_0 : kFuncL.C w A1_0 l1_0.length l1_0) (hc1_0 : l1_0.length ≤ c1_0) (hr1_1 : kConst.C w A1_1 l1_1.length l1_1) (hc1_1 : l1_1.length ≤ c1_1)
    (g0 : (l0_0.length ≤ maxLen ∧ ∀ x ∈ l0_0, GF x) ∧ (l0_1.length ≤ maxLen ∧ ∀ x ∈ l0_1, (Lit.int .i64 x.kind).wf = true ∧ (Lit.int .u64 x.num).wf = true ∧ x.text.size ≤ maxLen)) (g1 : (l1_0.length ≤ maxLen ∧ ∀ x ∈ l1_0, GF x) ∧ (l1_1.length ≤ maxLen ∧ ∀ x ∈ l1_1, (Lit.int .i64 x.kind).wf = true ∧ (Lit.int .u64 x.num).wf = true ∧ x.text.size ≤ maxLen)) :
    Calls Try.prog 12 #[.agg #[.slice A0_0 l0_0.length c0_0, .slice A0_1 l0_1.length c0_1], .agg #[.slice A1_0 l1_0.length c1_0, .slice A1_1 l1_1.length c1_1]] w fun e w' => e = .returned (.bool true) ∧ Below w.heap.size w w' := by
  have hx := kImageL_mk w ⟨l0_0, l0_1⟩ hc0_0 hr0_0 hc0_1 hr0_1
  have hy := kImageL_mk w ⟨l1_0, l1_1⟩ hc1_0 hr1_0 hc1_1 hr1_1
  have gx : GoodImage ⟨l0_0, l0_1⟩ := ⟨fun _ _ => trivial, fun y hy => (g0.2.2 y hy).2.2⟩
  have gy : GoodImage ⟨l1_0, l1_1⟩ := ⟨fun _ _ => trivial, fun y hy => (g1.2.2 y hy).2.2⟩
  by_cases n1 : (1048576 : Int) < (sizeImage ⟨l0_0, l0_1⟩ : Int)
  · exact WalkFnExactSameImage.w1 ⟨l0_0, l0_1⟩ ⟨l1_0, l1_1⟩ _ _ _ _ _ _ _ _ w hx hy gx gy (by unfold sub; rw [if_pos n1])
  · have e1 : sub 1048576 (sizeImage ⟨l0_0, l0_1⟩) = 1048576 - (sizeImage ⟨l0_0, l0_1⟩ : Int) := by unfold sub; rw [if_neg n1]
    by_cases n2 : 1048576 - (sizeImage ⟨l0_0, l0_1⟩ : Int) < (sizeImage ⟨l1_0, l1_1⟩ : Int)
    · exact WalkFnExactSameImage.w2 ⟨l0_0, l0_1⟩ ⟨l1_0, l1_1⟩ _ _ _ _ _ _ _ _ w hx hy gx gy _ e1 (by omega) (by omega) (by unfold sub; rw [if_pos n2])
    · have e2 : sub (1048576 - (sizeImage ⟨l0_0, l0_1⟩ : Int)) (sizeImage ⟨l1_0, l1_1⟩) = 1048576 - (sizeImage ⟨l0_0, l0_1⟩ : Int) - (sizeImage ⟨l1_0, l1_1⟩ : Int) := by unfold sub; rw [if_neg n2]
      exact WalkFnExactSameImage.w3 ⟨l0_0, l0_1⟩ ⟨l1_0, l1_1⟩ _ _ _ _ _ _ _ _ w hx hy gx gy _ _ e1 (by omega) (by omega) e2 (by omega) (len_ok (by omega)) (len_ok (by omega))
end Go.Proofs.Ytdgjbpefbkgnpaa.LawFnExactSameImage
