/- The tied card of 'FnExactShowIns': for every input the law returns true, and each argument reads behind the call as it read before; the two listed variables are tied to the program's text. No other condition. -/
import Derived.Test.YtkgdjhhokbbheaaDoorCards
import Derived.Test.YtkgdjhhokbbheaaDoorTie
import Derived.Test.YtkgdjhhokbbheaaDoorRowFnExactShowIns
import Derived.SevenTiedAt
namespace Go.Proofs.YtkgdjhhokbbheaaDoor
open Go
theorem fnExactShowInsCard_holds : Rows.FnExactShowInsCardSaid :=
  Claim7.holds_tied_plain_at .later [] [.listed, .data] true (true, "791980cbd351404debf5cb7628e5aef7ee70f0e1dfddfb888a691b0aa1f2571a") false
    fnExactShowIns_holds (fun _ h => by cases h) (by kernel_rfl) (fun _ h => by cases h) fnExactShowIns_row_tie rfl ⟨rfl, rfl⟩ (by kernel_rfl) rfl
    (fun f fn hf hfn => by
      obtain rfl : f = 3 := Option.some.inj ((show Tryd.prog.funcNamed "loop.example/g00115/laws.FnExactShowIns" = some 3 by kernel_rfl).symm.trans hf) |>.symm
      obtain rfl : fn = Tryd.f3 := (Option.some.inj (Tryd.func3.symm.trans hfn)).symm
      exact ⟨by kernel_rfl, fun j t ht => by
        rw [Tryd.params3] at ht
        have hm : t ∈ [23] := by simpa using Array.mem_of_getElem? ht
        have hall : ([23].all fun u => !Tryd.prog.wantsStandIn u) = true := by kernel_rfl
        exact (show Tryd.prog.wantsStandIn t = false by simpa using List.all_eq_true.1 hall t hm)⟩)
    (by kernel_rfl)
#print axioms fnExactShowInsCard_holds
end Go.Proofs.YtkgdjhhokbbheaaDoor
