/-
  No cell of these rows narrows 'for every input' (looked for: loops, veiled, ifaces, maps, wideKeys, modest, calm, conditions, laid).
  DERIVED. THE GIVEN ROWS OF THIS SEAT. 9 by the template 'for every input the law returns true; each argument reads behind the call as it read before'; 0 by the template 'total and deterministic' (their statements: YtcbaokflimdjnaaTotals.lean).
  GIVEN WITH THE SEED: the statements are not yours to turn. If you find one false, say at which input.
  Laid BY PROGRAM, IN A SANDBOX (cutbox-rows.mjs): the forced cells as the released guide's own fill.sh prints them over the translation 809dbc78e15102c2… (all of the seat's roots in one cut). By AI agents, Wed Nov 11 2026. No macro, syntax, notation, axiom, sorry.
-/
import Derived.Test.YtcbaokflimdjnaaChecked
import GoSem.Claim
import GoSem.ClaimJoined
import GoSem.ClaimMapViews
import Derived.JoinedTies
import Derived.KernelRfl
namespace Go.Proofs.Ytcbaokflimdjnaa
/- THE CELL 'sum', in the pinned program and in every row, IS THE sha256 OF THE DUMP (.gsa) THAT YtcbaokflimdjnaaProg.lean LOADS. Nothing in Lean hashes anything: it is a label: what it is worth is what the hold of that sum in a sandbox is worth. -/
noncomputable def Try.pinned : Pinned := { name := "ytcbaokflimdjnaa", sum := "809dbc78e15102c20501d59c8e893d61f41265db4f2bbb2f2cc7aabbc5061b41", checked := Try.checked }
namespace Rows
def none {H : Type} : Left H := { results := [], args := [] }

/-- 'laws.FnExactStepState': WHATEVER THE INPUT: true; the input reads as it did. -/
def fnExactStepStateSpec : ChangeSpec := { name := "fnExactStepState", fn := fun _ => fun
  | [d1, d2, d3, d4] => { results := [.lit (.bool true)], args := [d1, d2, d3, d4] }
  | _ => none }
def fnExactStepStateRow : OpenClaim := { program := "ytcbaokflimdjnaa", sum := "809dbc78e15102c20501d59c8e893d61f41265db4f2bbb2f2cc7aabbc5061b41", func := "loop.example/g00115/laws.FnExactStepState", spec := "fnExactStepState", apart := false }
def FnExactStepStateSaid : Prop := fnExactStepStateRow.holds Try.pinned (OpenSpec.ofChange fnExactStepStateSpec)

/-- ITS FALSE NEIGHBOUR: 'it returns false'. Refute it at one input. -/
def fnExactStepStateWrong : ChangeSpec := { name := "fnExactStepState", fn := fun _ => fun
  | [d1, d2, d3, d4] => { results := [.lit (.bool false)], args := [d1, d2, d3, d4] }
  | _ => none }
def FnExactStepStateWrongFalsely : Prop := fnExactStepStateRow.holds Try.pinned (OpenSpec.ofChange fnExactStepStateWrong)

/-- 'laws.FnExactVerify': WHATEVER THE INPUT: true; the input reads as it did. -/
def fnExactVerifySpec : ChangeSpec := { name := "fnExactVerify", fn := fun _ => fun
  | [d] => { results := [.lit (.bool true)], args := [d] }
  | _ => none }
def fnExactVerifyRow : OpenClaim := { program := "ytcbaokflimdjnaa", sum := "809dbc78e15102c20501d59c8e893d61f41265db4f2bbb2f2cc7aabbc5061b41", func := "loop.example/g00115/laws.FnExactVerify", spec := "fnExactVerify", apart := false }
def FnExactVerifySaid : Prop := fnExactVerifyRow.holds Try.pinned (OpenSpec.ofChange fnExactVerifySpec)

/-- ITS FALSE NEIGHBOUR: 'it returns false'. Refute it at one input. -/
def fnExactVerifyWrong : ChangeSpec := { name := "fnExactVerify", fn := fun _ => fun
  | [d] => { results := [.lit (.bool false)], args := [d] }
  | _ => none }
def FnExactVerifyWrongFalsely : Prop := fnExactVerifyRow.holds Try.pinned (OpenSpec.ofChange fnExactVerifyWrong)

/-- 'laws.FnExactReached': WHATEVER THE INPUT: true; the input reads as it did. -/
def fnExactReachedSpec : ChangeSpec := { name := "fnExactReached", fn := fun _ => fun
  | [d1, d2] => { results := [.lit (.bool true)], args := [d1, d2] }
  | _ => none }
def fnExactReachedRow : OpenClaim := { program := "ytcbaokflimdjnaa", sum := "809dbc78e15102c20501d59c8e893d61f41265db4f2bbb2f2cc7aabbc5061b41", func := "loop.example/g00115/laws.FnExactReached", spec := "fnExactReached", apart := false }
def FnExactReachedSaid : Prop := fnExactReachedRow.holds Try.pinned (OpenSpec.ofChange fnExactReachedSpec)

/-- ITS FALSE NEIGHBOUR: 'it returns false'. Refute it at one input. -/
def fnExactReachedWrong : ChangeSpec := { name := "fnExactReached", fn := fun _ => fun
  | [d1, d2] => { results := [.lit (.bool false)], args := [d1, d2] }
  | _ => none }
def FnExactReachedWrongFalsely : Prop := fnExactReachedRow.holds Try.pinned (OpenSpec.ofChange fnExactReachedWrong)

/-- 'laws.FnExactDeadOf': WHATEVER THE INPUT: true; the input reads as it did. -/
def fnExactDeadOfSpec : ChangeSpec := { name := "fnExactDeadOf", fn := fun _ => fun
  | [d1, d2] => { results := [.lit (.bool true)], args := [d1, d2] }
  | _ => none }
def fnExactDeadOfRow : OpenClaim := { program := "ytcbaokflimdjnaa", sum := "809dbc78e15102c20501d59c8e893d61f41265db4f2bbb2f2cc7aabbc5061b41", func := "loop.example/g00115/laws.FnExactDeadOf", spec := "fnExactDeadOf", apart := false }
def FnExactDeadOfSaid : Prop := fnExactDeadOfRow.holds Try.pinned (OpenSpec.ofChange fnExactDeadOfSpec)

/-- ITS FALSE NEIGHBOUR: 'it returns false'. Refute it at one input. -/
def fnExactDeadOfWrong : ChangeSpec := { name := "fnExactDeadOf", fn := fun _ => fun
  | [d1, d2] => { results := [.lit (.bool false)], args := [d1, d2] }
  | _ => none }
def FnExactDeadOfWrongFalsely : Prop := fnExactDeadOfRow.holds Try.pinned (OpenSpec.ofChange fnExactDeadOfWrong)

/-- 'laws.FnExactStates': WHATEVER THE INPUT: true; the input reads as it did. -/
def fnExactStatesSpec : ChangeSpec := { name := "fnExactStates", fn := fun _ => fun
  | [d1, d2] => { results := [.lit (.bool true)], args := [d1, d2] }
  | _ => none }
def fnExactStatesRow : OpenClaim := { program := "ytcbaokflimdjnaa", sum := "809dbc78e15102c20501d59c8e893d61f41265db4f2bbb2f2cc7aabbc5061b41", func := "loop.example/g00115/laws.FnExactStates", spec := "fnExactStates", apart := false }
def FnExactStatesSaid : Prop := fnExactStatesRow.holds Try.pinned (OpenSpec.ofChange fnExactStatesSpec)

/-- ITS FALSE NEIGHBOUR: 'it returns false'. Refute it at one input. -/
def fnExactStatesWrong : ChangeSpec := { name := "fnExactStates", fn := fun _ => fun
  | [d1, d2] => { results := [.lit (.bool false)], args := [d1, d2] }
  | _ => none }
def FnExactStatesWrongFalsely : Prop := fnExactStatesRow.holds Try.pinned (OpenSpec.ofChange fnExactStatesWrong)

/-- 'laws.FnExactPrune': WHATEVER THE INPUT: true; the input reads as it did. -/
def fnExactPruneSpec : ChangeSpec := { name := "fnExactPrune", fn := fun _ => fun
  | [d] => { results := [.lit (.bool true)], args := [d] }
  | _ => none }
def fnExactPruneRow : OpenClaim := { program := "ytcbaokflimdjnaa", sum := "809dbc78e15102c20501d59c8e893d61f41265db4f2bbb2f2cc7aabbc5061b41", func := "loop.example/g00115/laws.FnExactPrune", spec := "fnExactPrune", apart := false }
def FnExactPruneSaid : Prop := fnExactPruneRow.holds Try.pinned (OpenSpec.ofChange fnExactPruneSpec)

/-- ITS FALSE NEIGHBOUR: 'it returns false'. Refute it at one input. -/
def fnExactPruneWrong : ChangeSpec := { name := "fnExactPrune", fn := fun _ => fun
  | [d] => { results := [.lit (.bool false)], args := [d] }
  | _ => none }
def FnExactPruneWrongFalsely : Prop := fnExactPruneRow.holds Try.pinned (OpenSpec.ofChange fnExactPruneWrong)

/-- 'laws.FnExactJumpsOf': WHATEVER THE INPUT: true; the input reads as it did. -/
def fnExactJumpsOfSpec : ChangeSpec := { name := "fnExactJumpsOf", fn := fun _ => fun
  | [d1, d2] => { results := [.lit (.bool true)], args := [d1, d2] }
  | _ => none }
def fnExactJumpsOfRow : OpenClaim := { program := "ytcbaokflimdjnaa", sum := "809dbc78e15102c20501d59c8e893d61f41265db4f2bbb2f2cc7aabbc5061b41", func := "loop.example/g00115/laws.FnExactJumpsOf", spec := "fnExactJumpsOf", recurses := true, apart := false }
def FnExactJumpsOfSaid : Prop := fnExactJumpsOfRow.holds Try.pinned (OpenSpec.ofChange fnExactJumpsOfSpec)

/-- ITS FALSE NEIGHBOUR: 'it returns false'. Refute it at one input. -/
def fnExactJumpsOfWrong : ChangeSpec := { name := "fnExactJumpsOf", fn := fun _ => fun
  | [d1, d2] => { results := [.lit (.bool false)], args := [d1, d2] }
  | _ => none }
def FnExactJumpsOfWrongFalsely : Prop := fnExactJumpsOfRow.holds Try.pinned (OpenSpec.ofChange fnExactJumpsOfWrong)

/-- 'laws.FnExactImageText': WHATEVER THE INPUT: true; the input reads as it did. -/
def fnExactImageTextSpec : ChangeSpec := { name := "fnExactImageText", fn := fun _ => fun
  | [d] => { results := [.lit (.bool true)], args := [d] }
  | _ => none }
def fnExactImageTextRow : OpenClaim := { program := "ytcbaokflimdjnaa", sum := "809dbc78e15102c20501d59c8e893d61f41265db4f2bbb2f2cc7aabbc5061b41", func := "loop.example/g00115/laws.FnExactImageText", spec := "fnExactImageText", apart := false }
def FnExactImageTextSaid : Prop := fnExactImageTextRow.holds Try.pinned (OpenSpec.ofChange fnExactImageTextSpec)

/-- ITS FALSE NEIGHBOUR: 'it returns false'. Refute it at one input. -/
def fnExactImageTextWrong : ChangeSpec := { name := "fnExactImageText", fn := fun _ => fun
  | [d] => { results := [.lit (.bool false)], args := [d] }
  | _ => none }
def FnExactImageTextWrongFalsely : Prop := fnExactImageTextRow.holds Try.pinned (OpenSpec.ofChange fnExactImageTextWrong)

/-- 'laws.FnExactReadImage': WHATEVER THE INPUT: true; the input reads as it did. -/
def fnExactReadImageSpec : ChangeSpec := { name := "fnExactReadImage", fn := fun _ => fun
  | [d] => { results := [.lit (.bool true)], args := [d] }
  | _ => none }
def fnExactReadImageRow : OpenClaim := { program := "ytcbaokflimdjnaa", sum := "809dbc78e15102c20501d59c8e893d61f41265db4f2bbb2f2cc7aabbc5061b41", func := "loop.example/g00115/laws.FnExactReadImage", spec := "fnExactReadImage", apart := false }
def FnExactReadImageSaid : Prop := fnExactReadImageRow.holds Try.pinned (OpenSpec.ofChange fnExactReadImageSpec)

/-- ITS FALSE NEIGHBOUR: 'it returns false'. Refute it at one input. -/
def fnExactReadImageWrong : ChangeSpec := { name := "fnExactReadImage", fn := fun _ => fun
  | [d] => { results := [.lit (.bool false)], args := [d] }
  | _ => none }
def FnExactReadImageWrongFalsely : Prop := fnExactReadImageRow.holds Try.pinned (OpenSpec.ofChange fnExactReadImageWrong)

/- THE SECOND FORM. 'bulk': how many values and letters a reading holds, each counted each time it is reached (what is shared counts as often as it is met; a slice's spare places count too). A statement '..UptoSaid' is the law's where the arguments, and the package variables that the reading takes, are together of bulk at most 1048576: NARROWER than '..Said'. Prove '..Said' where nothing that the law and all that it calls make is longer than what came in: it says more and counts as full. Else prove '..UptoSaid'. A law counts once. -/
mutual
def uptoBulk {H : Type} : DataW H → Nat
  | .lit (.string bytes) => bytes.length + 1
  | .lit _ => 1
  | .nil => 1
  | .ptr d => uptoBulk d + 1
  | .slice elems spare => uptoBulkAll elems + uptoBulkAll spare + 1
  | .agg parts => uptoBulkAll parts + 1
  | .iface _ d => uptoBulk d + 1
  | .map entries => uptoBulkEntries entries + 1
  | .held _ => 1
def uptoBulkAll {H : Type} : List (DataW H) → Nat
  | [] => 0
  | d :: r => uptoBulk d + uptoBulkAll r
def uptoBulkEntries {H : Type} : List (Lit × DataW H) → Nat
  | [] => 0
  | x :: r => uptoBulkEntry x + uptoBulkEntries r
def uptoBulkEntry {H : Type} : Lit × DataW H → Nat
  | (.string bytes, d) => bytes.length + uptoBulk d + 1
  | (_, d) => uptoBulk d + 1
 end
def uptoSmall : (H : Type) → List (DataW H) → Bool := fun _ ds => decide (uptoBulkAll ds ≤ 1048576)
def OpenSpec.upto (s : _root_.Go.ChangeSpec) : _root_.Go.OpenSpec := { _root_.Go.OpenSpec.ofChange s with cond := some uptoSmall }

/-- 'laws.FnExactStepState', WHERE WHAT IT READS IS OF BULK AT MOST 1048576: true; the input reads as it did. -/
def fnExactStepStateUptoRow : OpenClaim := { program := "ytcbaokflimdjnaa", sum := "809dbc78e15102c20501d59c8e893d61f41265db4f2bbb2f2cc7aabbc5061b41", func := "loop.example/g00115/laws.FnExactStepState", spec := "fnExactStepState", apart := false, narrowed := true }
def FnExactStepStateUptoSaid : Prop := fnExactStepStateUptoRow.holds Try.pinned (OpenSpec.upto fnExactStepStateSpec)

/-- 'laws.FnExactVerify', WHERE WHAT IT READS IS OF BULK AT MOST 1048576: true; the input reads as it did. -/
def fnExactVerifyUptoRow : OpenClaim := { program := "ytcbaokflimdjnaa", sum := "809dbc78e15102c20501d59c8e893d61f41265db4f2bbb2f2cc7aabbc5061b41", func := "loop.example/g00115/laws.FnExactVerify", spec := "fnExactVerify", apart := false, narrowed := true }
def FnExactVerifyUptoSaid : Prop := fnExactVerifyUptoRow.holds Try.pinned (OpenSpec.upto fnExactVerifySpec)

/-- 'laws.FnExactReached', WHERE WHAT IT READS IS OF BULK AT MOST 1048576: true; the input reads as it did. -/
def fnExactReachedUptoRow : OpenClaim := { program := "ytcbaokflimdjnaa", sum := "809dbc78e15102c20501d59c8e893d61f41265db4f2bbb2f2cc7aabbc5061b41", func := "loop.example/g00115/laws.FnExactReached", spec := "fnExactReached", apart := false, narrowed := true }
def FnExactReachedUptoSaid : Prop := fnExactReachedUptoRow.holds Try.pinned (OpenSpec.upto fnExactReachedSpec)

/-- 'laws.FnExactDeadOf', WHERE WHAT IT READS IS OF BULK AT MOST 1048576: true; the input reads as it did. -/
def fnExactDeadOfUptoRow : OpenClaim := { program := "ytcbaokflimdjnaa", sum := "809dbc78e15102c20501d59c8e893d61f41265db4f2bbb2f2cc7aabbc5061b41", func := "loop.example/g00115/laws.FnExactDeadOf", spec := "fnExactDeadOf", apart := false, narrowed := true }
def FnExactDeadOfUptoSaid : Prop := fnExactDeadOfUptoRow.holds Try.pinned (OpenSpec.upto fnExactDeadOfSpec)

/-- 'laws.FnExactStates', WHERE WHAT IT READS IS OF BULK AT MOST 1048576: true; the input reads as it did. -/
def fnExactStatesUptoRow : OpenClaim := { program := "ytcbaokflimdjnaa", sum := "809dbc78e15102c20501d59c8e893d61f41265db4f2bbb2f2cc7aabbc5061b41", func := "loop.example/g00115/laws.FnExactStates", spec := "fnExactStates", apart := false, narrowed := true }
def FnExactStatesUptoSaid : Prop := fnExactStatesUptoRow.holds Try.pinned (OpenSpec.upto fnExactStatesSpec)

/-- 'laws.FnExactPrune', WHERE WHAT IT READS IS OF BULK AT MOST 1048576: true; the input reads as it did. -/
def fnExactPruneUptoRow : OpenClaim := { program := "ytcbaokflimdjnaa", sum := "809dbc78e15102c20501d59c8e893d61f41265db4f2bbb2f2cc7aabbc5061b41", func := "loop.example/g00115/laws.FnExactPrune", spec := "fnExactPrune", apart := false, narrowed := true }
def FnExactPruneUptoSaid : Prop := fnExactPruneUptoRow.holds Try.pinned (OpenSpec.upto fnExactPruneSpec)

/-- 'laws.FnExactJumpsOf', WHERE WHAT IT READS IS OF BULK AT MOST 1048576: true; the input reads as it did. -/
def fnExactJumpsOfUptoRow : OpenClaim := { program := "ytcbaokflimdjnaa", sum := "809dbc78e15102c20501d59c8e893d61f41265db4f2bbb2f2cc7aabbc5061b41", func := "loop.example/g00115/laws.FnExactJumpsOf", spec := "fnExactJumpsOf", recurses := true, apart := false, narrowed := true }
def FnExactJumpsOfUptoSaid : Prop := fnExactJumpsOfUptoRow.holds Try.pinned (OpenSpec.upto fnExactJumpsOfSpec)

/-- 'laws.FnExactImageText', WHERE WHAT IT READS IS OF BULK AT MOST 1048576: true; the input reads as it did. -/
def fnExactImageTextUptoRow : OpenClaim := { program := "ytcbaokflimdjnaa", sum := "809dbc78e15102c20501d59c8e893d61f41265db4f2bbb2f2cc7aabbc5061b41", func := "loop.example/g00115/laws.FnExactImageText", spec := "fnExactImageText", apart := false, narrowed := true }
def FnExactImageTextUptoSaid : Prop := fnExactImageTextUptoRow.holds Try.pinned (OpenSpec.upto fnExactImageTextSpec)

/-- 'laws.FnExactReadImage', WHERE WHAT IT READS IS OF BULK AT MOST 1048576: true; the input reads as it did. -/
def fnExactReadImageUptoRow : OpenClaim := { program := "ytcbaokflimdjnaa", sum := "809dbc78e15102c20501d59c8e893d61f41265db4f2bbb2f2cc7aabbc5061b41", func := "loop.example/g00115/laws.FnExactReadImage", spec := "fnExactReadImage", apart := false, narrowed := true }
def FnExactReadImageUptoSaid : Prop := fnExactReadImageUptoRow.holds Try.pinned (OpenSpec.upto fnExactReadImageSpec)

end Rows
end Go.Proofs.Ytcbaokflimdjnaa
