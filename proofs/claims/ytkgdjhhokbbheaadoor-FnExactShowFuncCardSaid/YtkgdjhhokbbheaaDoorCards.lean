/-
  DERIVED. GIVEN WITH THE SEED: THE CARDS: each row of YtkgdjhhokbbheaaDoorRows.lean that lists a variable, with what it lists TIED to the program's text (the seventh form; the later family's looks); each row that meets fmt, with fmt's text TOLD by the authors' own Lean function (tested against real Go, not proved from fmt's source: count such statements apart). THE CARD IS WHAT COUNTS. Prove the row's statement (the work); the ties are given (YtkgdjhhokbbheaaDoorTie.lean); close each card by the builder's one call (the guide's Derived/Test/ToyasCard.lean, 'card_holds'). Laid BY PROGRAM, IN A SANDBOX (cutbox-door.mjs). By AI agents, Wed Nov 11 2026. No macro, syntax, notation, axiom, sorry.
-/
import Derived.Test.YtkgdjhhokbbheaaDoorRows
import GoSem.ClaimSeven
namespace Go.Proofs.YtkgdjhhokbbheaaDoor
namespace Rows

/-- THE TIED CARD OF 'laws.FnExactShowIns'. -/
def fnExactShowInsCard : Claim7 := { stood := { row := fnExactShowInsRow, standIns := [], harness := (true, "791980cbd351404debf5cb7628e5aef7ee70f0e1dfddfb888a691b0aa1f2571a"), looks := false }, kinds := [], alts := [], laidByText := true, laidKinds := [.listed, .data], laidTests := true, laidLooks := .later }
def FnExactShowInsCardSaid : Prop := Claim7.holds Tryd.pinned (.plain (OpenSpec.ofChange fnExactShowInsSpec)) fnExactShowInsCard

/-- THE TIED CARD OF 'laws.FnExactShowFunc'. -/
def fnExactShowFuncCard : Claim7 := { stood := { row := fnExactShowFuncRow, standIns := [], harness := (true, "791980cbd351404debf5cb7628e5aef7ee70f0e1dfddfb888a691b0aa1f2571a"), looks := false }, kinds := [], alts := [], laidByText := true, laidKinds := [.listed, .data], laidTests := true, laidLooks := .later }
def FnExactShowFuncCardSaid : Prop := Claim7.holds Tryd.pinned (.plain (OpenSpec.ofChange fnExactShowFuncSpec)) fnExactShowFuncCard

/-- THE SECOND FORM's CARD OF 'laws.FnExactShowIns'. -/
def fnExactShowInsUptoCard : Claim7 := { stood := { row := fnExactShowInsUptoRow, standIns := [], harness := (true, "791980cbd351404debf5cb7628e5aef7ee70f0e1dfddfb888a691b0aa1f2571a"), looks := false }, kinds := [], alts := [], laidByText := true, laidKinds := [.listed, .data], laidTests := true, laidLooks := .later }
def FnExactShowInsUptoCardSaid : Prop := Claim7.holds Tryd.pinned (.plain (OpenSpec.upto fnExactShowInsSpec)) fnExactShowInsUptoCard

/-- THE SECOND FORM's CARD OF 'laws.FnExactShowFunc'. -/
def fnExactShowFuncUptoCard : Claim7 := { stood := { row := fnExactShowFuncUptoRow, standIns := [], harness := (true, "791980cbd351404debf5cb7628e5aef7ee70f0e1dfddfb888a691b0aa1f2571a"), looks := false }, kinds := [], alts := [], laidByText := true, laidKinds := [.listed, .data], laidTests := true, laidLooks := .later }
def FnExactShowFuncUptoCardSaid : Prop := Claim7.holds Tryd.pinned (.plain (OpenSpec.upto fnExactShowFuncSpec)) fnExactShowFuncUptoCard
end Rows
end Go.Proofs.YtkgdjhhokbbheaaDoor
