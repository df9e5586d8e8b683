/- The tied card of 'FnExactShowFunc': for every input the law returns true, and each argument reads behind the call as it read before; the two listed variables are tied to the program's text. No other condition. -/
import Derived.Test.YtkgdjhhokbbheaaDoorCards
import Derived.Test.YtkgdjhhokbbheaaDoorTie
import Derived.SevenTiedAt
import Derived.Test.YtkgdjhhokbbheaaDoorPB22
section
namespace Go.Proofs.YtkgdjhhokbbheaaDoor
open Go
theorem fnExactShowFuncCard_holds : Rows.FnExactShowFuncCardSaid :=
  Claim7.holds_tied_plain_at .later [] [.listed, .data] true (true, "791980cbd351404debf5cb7628e5aef7ee70f0e1dfddfb888a691b0aa1f2571a") false
    fnExactShowFunc_holds (fun _ h => by cases h) (by kernel_rfl) (fun _ h => by cases h) fnExactShowFunc_row_tie rfl ⟨rfl, rfl⟩ (by kernel_rfl) rfl
    (fun f fn hf hfn => by
      obtain rfl : f = 4 := Option.some.inj ((show Tryd.prog.funcNamed "loop.example/g00115/laws.FnExactShowFunc" = some 4 by kernel_rfl).symm.trans hf) |>.symm
      obtain rfl : fn = Tryd.f4 := (Option.some.inj (Tryd.func4.symm.trans hfn)).symm
      exact ⟨by kernel_rfl, fun j t ht => by
        rw [Tryd.params4] at ht
        have hm : t ∈ [31, 3] := by simpa using Array.mem_of_getElem? ht
        have hall : ([31, 3].all fun u => !Tryd.prog.wantsStandIn u) = true := by kernel_rfl
        exact (show Tryd.prog.wantsStandIn t = false by simpa using List.all_eq_true.1 hall t hm)⟩)
    (by kernel_rfl)
#print axioms fnExactShowFuncCard_holds
end Go.Proofs.YtkgdjhhokbbheaaDoor
end
