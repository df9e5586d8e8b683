/-
  No cell of these rows narrows 'for every input' (looked for: loops, veiled, ifaces, maps, wideKeys, modest, calm, conditions, laid).
  DERIVED. THE GIVEN ROWS OF THIS SEAT. 11 by the template 'for every input the law returns true; each argument reads behind the call as it read before'; 0 by the template 'total and deterministic' (their statements: YtdgjbpefbkgnpaaTotals.lean).
  GIVEN WITH THE SEED: the statements are not yours to turn. If you find one false, say at which input.
  Laid BY PROGRAM, IN A SANDBOX (cutbox-rows.mjs): the forced cells as the released guide's own fill.sh prints them over the translation f97c95036de13636… (all of the seat's roots in one cut). By AI agents, Wed Nov 11 2026. No macro, syntax, notation, axiom, sorry.
-/
import Derived.Test.YtdgjbpefbkgnpaaChecked
import GoSem.Claim
import GoSem.ClaimJoined
import GoSem.ClaimMapViews
import Derived.JoinedTies
import Derived.KernelRfl
namespace Go.Proofs.Ytdgjbpefbkgnpaa
/- THE CELL 'sum', in the pinned program and in every row, IS THE sha256 OF THE DUMP (.gsa) THAT YtdgjbpefbkgnpaaProg.lean LOADS. Nothing in Lean hashes anything: it is a label: what it is worth is what the hold of that sum in a sandbox is worth. -/
noncomputable def Try.pinned : Pinned := { name := "ytdgjbpefbkgnpaa", sum := "f97c95036de13636e2c8d4ff0a2b347f95d1996c66ecea0c70ff61149fea212e", checked := Try.checked }
namespace Rows
def none {H : Type} : Left H := { results := [], args := [] }

/-- 'laws.FnExactValueOk': WHATEVER THE INPUT: true; the input reads as it did. -/
def fnExactValueOkSpec : ChangeSpec := { name := "fnExactValueOk", fn := fun _ => fun
  | [d] => { results := [.lit (.bool true)], args := [d] }
  | _ => none }
def fnExactValueOkRow : OpenClaim := { program := "ytdgjbpefbkgnpaa", sum := "f97c95036de13636e2c8d4ff0a2b347f95d1996c66ecea0c70ff61149fea212e", func := "loop.example/g00115/laws.FnExactValueOk", spec := "fnExactValueOk", apart := false }
def FnExactValueOkSaid : Prop := fnExactValueOkRow.holds Try.pinned (OpenSpec.ofChange fnExactValueOkSpec)

/-- ITS FALSE NEIGHBOUR: 'it returns false'. Refute it at one input. -/
def fnExactValueOkWrong : ChangeSpec := { name := "fnExactValueOk", fn := fun _ => fun
  | [d] => { results := [.lit (.bool false)], args := [d] }
  | _ => none }
def FnExactValueOkWrongFalsely : Prop := fnExactValueOkRow.holds Try.pinned (OpenSpec.ofChange fnExactValueOkWrong)

/-- 'laws.FnExactSameValue': WHATEVER THE INPUT: true; the input reads as it did. -/
def fnExactSameValueSpec : ChangeSpec := { name := "fnExactSameValue", fn := fun _ => fun
  | [d1, d2] => { results := [.lit (.bool true)], args := [d1, d2] }
  | _ => none }
def fnExactSameValueRow : OpenClaim := { program := "ytdgjbpefbkgnpaa", sum := "f97c95036de13636e2c8d4ff0a2b347f95d1996c66ecea0c70ff61149fea212e", func := "loop.example/g00115/laws.FnExactSameValue", spec := "fnExactSameValue", inPlace := ["math.Float64frombits"], apart := false }
def FnExactSameValueSaid : Prop := fnExactSameValueRow.holds Try.pinned (OpenSpec.ofChange fnExactSameValueSpec)

/-- ITS FALSE NEIGHBOUR: 'it returns false'. Refute it at one input. -/
def fnExactSameValueWrong : ChangeSpec := { name := "fnExactSameValue", fn := fun _ => fun
  | [d1, d2] => { results := [.lit (.bool false)], args := [d1, d2] }
  | _ => none }
def FnExactSameValueWrongFalsely : Prop := fnExactSameValueRow.holds Try.pinned (OpenSpec.ofChange fnExactSameValueWrong)

/-- 'laws.FnJoins': WHATEVER THE INPUT: true; the input reads as it did. -/
def fnJoinsSpec : ChangeSpec := { name := "fnJoins", fn := fun _ => fun
  | [d] => { results := [.lit (.bool true)], args := [d] }
  | _ => none }
def fnJoinsRow : OpenClaim := { program := "ytdgjbpefbkgnpaa", sum := "f97c95036de13636e2c8d4ff0a2b347f95d1996c66ecea0c70ff61149fea212e", func := "loop.example/g00115/laws.FnJoins", spec := "fnJoins", apart := false }
def FnJoinsSaid : Prop := fnJoinsRow.holds Try.pinned (OpenSpec.ofChange fnJoinsSpec)

/-- ITS FALSE NEIGHBOUR: 'it returns false'. Refute it at one input. -/
def fnJoinsWrong : ChangeSpec := { name := "fnJoins", fn := fun _ => fun
  | [d] => { results := [.lit (.bool false)], args := [d] }
  | _ => none }
def FnJoinsWrongFalsely : Prop := fnJoinsRow.holds Try.pinned (OpenSpec.ofChange fnJoinsWrong)

/-- 'laws.FnExactDoMinus': WHATEVER THE INPUT: true; the input reads as it did. -/
def fnExactDoMinusSpec : ChangeSpec := { name := "fnExactDoMinus", fn := fun _ => fun
  | [d] => { results := [.lit (.bool true)], args := [d] }
  | _ => none }
def fnExactDoMinusRow : OpenClaim := { program := "ytdgjbpefbkgnpaa", sum := "f97c95036de13636e2c8d4ff0a2b347f95d1996c66ecea0c70ff61149fea212e", func := "loop.example/g00115/laws.FnExactDoMinus", spec := "fnExactDoMinus", apart := false }
def FnExactDoMinusSaid : Prop := fnExactDoMinusRow.holds Try.pinned (OpenSpec.ofChange fnExactDoMinusSpec)

/-- ITS FALSE NEIGHBOUR: 'it returns false'. Refute it at one input. -/
def fnExactDoMinusWrong : ChangeSpec := { name := "fnExactDoMinus", fn := fun _ => fun
  | [d] => { results := [.lit (.bool false)], args := [d] }
  | _ => none }
def FnExactDoMinusWrongFalsely : Prop := fnExactDoMinusRow.holds Try.pinned (OpenSpec.ofChange fnExactDoMinusWrong)

/-- 'laws.FnExactPrefix': WHATEVER THE INPUT: true; the input reads as it did. -/
def fnExactPrefixSpec : ChangeSpec := { name := "fnExactPrefix", fn := fun _ => fun
  | [d1, d2] => { results := [.lit (.bool true)], args := [d1, d2] }
  | _ => none }
def fnExactPrefixRow : OpenClaim := { program := "ytdgjbpefbkgnpaa", sum := "f97c95036de13636e2c8d4ff0a2b347f95d1996c66ecea0c70ff61149fea212e", func := "loop.example/g00115/laws.FnExactPrefix", spec := "fnExactPrefix", apart := false }
def FnExactPrefixSaid : Prop := fnExactPrefixRow.holds Try.pinned (OpenSpec.ofChange fnExactPrefixSpec)

/-- ITS FALSE NEIGHBOUR: 'it returns false'. Refute it at one input. -/
def fnExactPrefixWrong : ChangeSpec := { name := "fnExactPrefix", fn := fun _ => fun
  | [d1, d2] => { results := [.lit (.bool false)], args := [d1, d2] }
  | _ => none }
def FnExactPrefixWrongFalsely : Prop := fnExactPrefixRow.holds Try.pinned (OpenSpec.ofChange fnExactPrefixWrong)

/-- 'laws.FnExactSameOutcome': WHATEVER THE INPUT: true; the input reads as it did. -/
def fnExactSameOutcomeSpec : ChangeSpec := { name := "fnExactSameOutcome", fn := fun _ => fun
  | [d1, d2] => { results := [.lit (.bool true)], args := [d1, d2] }
  | _ => none }
def fnExactSameOutcomeRow : OpenClaim := { program := "ytdgjbpefbkgnpaa", sum := "f97c95036de13636e2c8d4ff0a2b347f95d1996c66ecea0c70ff61149fea212e", func := "loop.example/g00115/laws.FnExactSameOutcome", spec := "fnExactSameOutcome", apart := false }
def FnExactSameOutcomeSaid : Prop := fnExactSameOutcomeRow.holds Try.pinned (OpenSpec.ofChange fnExactSameOutcomeSpec)

/-- ITS FALSE NEIGHBOUR: 'it returns false'. Refute it at one input. -/
def fnExactSameOutcomeWrong : ChangeSpec := { name := "fnExactSameOutcome", fn := fun _ => fun
  | [d1, d2] => { results := [.lit (.bool false)], args := [d1, d2] }
  | _ => none }
def FnExactSameOutcomeWrongFalsely : Prop := fnExactSameOutcomeRow.holds Try.pinned (OpenSpec.ofChange fnExactSameOutcomeWrong)

/-- 'laws.FnExactIsTrue': WHATEVER THE INPUT: true; the input reads as it did. -/
def fnExactIsTrueSpec : ChangeSpec := { name := "fnExactIsTrue", fn := fun _ => fun
  | [d] => { results := [.lit (.bool true)], args := [d] }
  | _ => none }
def fnExactIsTrueRow : OpenClaim := { program := "ytdgjbpefbkgnpaa", sum := "f97c95036de13636e2c8d4ff0a2b347f95d1996c66ecea0c70ff61149fea212e", func := "loop.example/g00115/laws.FnExactIsTrue", spec := "fnExactIsTrue", apart := false }
def FnExactIsTrueSaid : Prop := fnExactIsTrueRow.holds Try.pinned (OpenSpec.ofChange fnExactIsTrueSpec)

/-- ITS FALSE NEIGHBOUR: 'it returns false'. Refute it at one input. -/
def fnExactIsTrueWrong : ChangeSpec := { name := "fnExactIsTrue", fn := fun _ => fun
  | [d] => { results := [.lit (.bool false)], args := [d] }
  | _ => none }
def FnExactIsTrueWrongFalsely : Prop := fnExactIsTrueRow.holds Try.pinned (OpenSpec.ofChange fnExactIsTrueWrong)

/-- 'laws.FnExactJoin': WHATEVER THE INPUT: true; the input reads as it did. -/
def fnExactJoinSpec : ChangeSpec := { name := "fnExactJoin", fn := fun _ => fun
  | [d1, d2] => { results := [.lit (.bool true)], args := [d1, d2] }
  | _ => none }
def fnExactJoinRow : OpenClaim := { program := "ytdgjbpefbkgnpaa", sum := "f97c95036de13636e2c8d4ff0a2b347f95d1996c66ecea0c70ff61149fea212e", func := "loop.example/g00115/laws.FnExactJoin", spec := "fnExactJoin", apart := false }
def FnExactJoinSaid : Prop := fnExactJoinRow.holds Try.pinned (OpenSpec.ofChange fnExactJoinSpec)

/-- ITS FALSE NEIGHBOUR: 'it returns false'. Refute it at one input. -/
def fnExactJoinWrong : ChangeSpec := { name := "fnExactJoin", fn := fun _ => fun
  | [d1, d2] => { results := [.lit (.bool false)], args := [d1, d2] }
  | _ => none }
def FnExactJoinWrongFalsely : Prop := fnExactJoinRow.holds Try.pinned (OpenSpec.ofChange fnExactJoinWrong)

/-- 'laws.FnParts': WHATEVER THE INPUT: true; the input reads as it did. -/
def fnPartsSpec : ChangeSpec := { name := "fnParts", fn := fun _ => fun
  | [d] => { results := [.lit (.bool true)], args := [d] }
  | _ => none }
def fnPartsRow : OpenClaim := { program := "ytdgjbpefbkgnpaa", sum := "f97c95036de13636e2c8d4ff0a2b347f95d1996c66ecea0c70ff61149fea212e", func := "loop.example/g00115/laws.FnParts", spec := "fnParts", apart := false }
def FnPartsSaid : Prop := fnPartsRow.holds Try.pinned (OpenSpec.ofChange fnPartsSpec)

/-- ITS FALSE NEIGHBOUR: 'it returns false'. Refute it at one input. -/
def fnPartsWrong : ChangeSpec := { name := "fnParts", fn := fun _ => fun
  | [d] => { results := [.lit (.bool false)], args := [d] }
  | _ => none }
def FnPartsWrongFalsely : Prop := fnPartsRow.holds Try.pinned (OpenSpec.ofChange fnPartsWrong)

/-- 'laws.FnExactSameImage': WHATEVER THE INPUT: true; the input reads as it did. -/
def fnExactSameImageSpec : ChangeSpec := { name := "fnExactSameImage", fn := fun _ => fun
  | [d1, d2] => { results := [.lit (.bool true)], args := [d1, d2] }
  | _ => none }
def fnExactSameImageRow : OpenClaim := { program := "ytdgjbpefbkgnpaa", sum := "f97c95036de13636e2c8d4ff0a2b347f95d1996c66ecea0c70ff61149fea212e", func := "loop.example/g00115/laws.FnExactSameImage", spec := "fnExactSameImage", unfollowed := true, recurses := true, apart := false }
def FnExactSameImageSaid : Prop := fnExactSameImageRow.holds Try.pinned (OpenSpec.ofChange fnExactSameImageSpec)

/-- ITS FALSE NEIGHBOUR: 'it returns false'. Refute it at one input. -/
def fnExactSameImageWrong : ChangeSpec := { name := "fnExactSameImage", fn := fun _ => fun
  | [d1, d2] => { results := [.lit (.bool false)], args := [d1, d2] }
  | _ => none }
def FnExactSameImageWrongFalsely : Prop := fnExactSameImageRow.holds Try.pinned (OpenSpec.ofChange fnExactSameImageWrong)

/-- 'laws.FnExactTreeOk': WHATEVER THE INPUT: true; the input reads as it did. -/
def fnExactTreeOkSpec : ChangeSpec := { name := "fnExactTreeOk", fn := fun _ => fun
  | [d] => { results := [.lit (.bool true)], args := [d] }
  | _ => none }
def fnExactTreeOkRow : OpenClaim := { program := "ytdgjbpefbkgnpaa", sum := "f97c95036de13636e2c8d4ff0a2b347f95d1996c66ecea0c70ff61149fea212e", func := "loop.example/g00115/laws.FnExactTreeOk", spec := "fnExactTreeOk", unfollowed := true, recurses := true, apart := false }
def FnExactTreeOkSaid : Prop := fnExactTreeOkRow.holds Try.pinned (OpenSpec.ofChange fnExactTreeOkSpec)

/-- ITS FALSE NEIGHBOUR: 'it returns false'. Refute it at one input. -/
def fnExactTreeOkWrong : ChangeSpec := { name := "fnExactTreeOk", fn := fun _ => fun
  | [d] => { results := [.lit (.bool false)], args := [d] }
  | _ => none }
def FnExactTreeOkWrongFalsely : Prop := fnExactTreeOkRow.holds Try.pinned (OpenSpec.ofChange fnExactTreeOkWrong)

/- THE SECOND FORM. 'bulk': how many values and letters a reading holds, each counted each time it is reached (what is shared counts as often as it is met; a slice's spare places count too). A statement '..UptoSaid' is the law's where the arguments, and the package variables that the reading takes, are together of bulk at most 1048576: NARROWER than '..Said'. Prove '..Said' where nothing that the law and all that it calls make is longer than what came in: it says more and counts as full. Else prove '..UptoSaid'. A law counts once. -/
mutual
def uptoBulk {H : Type} : DataW H → Nat
  | .lit (.string bytes) => bytes.length + 1
  | .lit _ => 1
  | .nil => 1
  | .ptr d => uptoBulk d + 1
  | .slice elems spare => uptoBulkAll elems + uptoBulkAll spare + 1
  | .agg parts => uptoBulkAll parts + 1
  | .iface _ d => uptoBulk d + 1
  | .map entries => uptoBulkEntries entries + 1
  | .held _ => 1
def uptoBulkAll {H : Type} : List (DataW H) → Nat
  | [] => 0
  | d :: r => uptoBulk d + uptoBulkAll r
def uptoBulkEntries {H : Type} : List (Lit × DataW H) → Nat
  | [] => 0
  | x :: r => uptoBulkEntry x + uptoBulkEntries r
def uptoBulkEntry {H : Type} : Lit × DataW H → Nat
  | (.string bytes, d) => bytes.length + uptoBulk d + 1
  | (_, d) => uptoBulk d + 1
 end
def uptoSmall : (H : Type) → List (DataW H) → Bool := fun _ ds => decide (uptoBulkAll ds ≤ 1048576)
def OpenSpec.upto (s : _root_.Go.ChangeSpec) : _root_.Go.OpenSpec := { _root_.Go.OpenSpec.ofChange s with cond := some uptoSmall }

/-- 'laws.FnExactValueOk', WHERE WHAT IT READS IS OF BULK AT MOST 1048576: true; the input reads as it did. -/
def fnExactValueOkUptoRow : OpenClaim := { program := "ytdgjbpefbkgnpaa", sum := "f97c95036de13636e2c8d4ff0a2b347f95d1996c66ecea0c70ff61149fea212e", func := "loop.example/g00115/laws.FnExactValueOk", spec := "fnExactValueOk", apart := false, narrowed := true }
def FnExactValueOkUptoSaid : Prop := fnExactValueOkUptoRow.holds Try.pinned (OpenSpec.upto fnExactValueOkSpec)

/-- 'laws.FnExactSameValue', WHERE WHAT IT READS IS OF BULK AT MOST 1048576: true; the input reads as it did. -/
def fnExactSameValueUptoRow : OpenClaim := { program := "ytdgjbpefbkgnpaa", sum := "f97c95036de13636e2c8d4ff0a2b347f95d1996c66ecea0c70ff61149fea212e", func := "loop.example/g00115/laws.FnExactSameValue", spec := "fnExactSameValue", inPlace := ["math.Float64frombits"], apart := false, narrowed := true }
def FnExactSameValueUptoSaid : Prop := fnExactSameValueUptoRow.holds Try.pinned (OpenSpec.upto fnExactSameValueSpec)

/-- 'laws.FnJoins', WHERE WHAT IT READS IS OF BULK AT MOST 1048576: true; the input reads as it did. -/
def fnJoinsUptoRow : OpenClaim := { program := "ytdgjbpefbkgnpaa", sum := "f97c95036de13636e2c8d4ff0a2b347f95d1996c66ecea0c70ff61149fea212e", func := "loop.example/g00115/laws.FnJoins", spec := "fnJoins", apart := false, narrowed := true }
def FnJoinsUptoSaid : Prop := fnJoinsUptoRow.holds Try.pinned (OpenSpec.upto fnJoinsSpec)

/-- 'laws.FnExactDoMinus', WHERE WHAT IT READS IS OF BULK AT MOST 1048576: true; the input reads as it did. -/
def fnExactDoMinusUptoRow : OpenClaim := { program := "ytdgjbpefbkgnpaa", sum := "f97c95036de13636e2c8d4ff0a2b347f95d1996c66ecea0c70ff61149fea212e", func := "loop.example/g00115/laws.FnExactDoMinus", spec := "fnExactDoMinus", apart := false, narrowed := true }
def FnExactDoMinusUptoSaid : Prop := fnExactDoMinusUptoRow.holds Try.pinned (OpenSpec.upto fnExactDoMinusSpec)

/-- 'laws.FnExactPrefix', WHERE WHAT IT READS IS OF BULK AT MOST 1048576: true; the input reads as it did. -/
def fnExactPrefixUptoRow : OpenClaim := { program := "ytdgjbpefbkgnpaa", sum := "f97c95036de13636e2c8d4ff0a2b347f95d1996c66ecea0c70ff61149fea212e", func := "loop.example/g00115/laws.FnExactPrefix", spec := "fnExactPrefix", apart := false, narrowed := true }
def FnExactPrefixUptoSaid : Prop := fnExactPrefixUptoRow.holds Try.pinned (OpenSpec.upto fnExactPrefixSpec)

/-- 'laws.FnExactSameOutcome', WHERE WHAT IT READS IS OF BULK AT MOST 1048576: true; the input reads as it did. -/
def fnExactSameOutcomeUptoRow : OpenClaim := { program := "ytdgjbpefbkgnpaa", sum := "f97c95036de13636e2c8d4ff0a2b347f95d1996c66ecea0c70ff61149fea212e", func := "loop.example/g00115/laws.FnExactSameOutcome", spec := "fnExactSameOutcome", apart := false, narrowed := true }
def FnExactSameOutcomeUptoSaid : Prop := fnExactSameOutcomeUptoRow.holds Try.pinned (OpenSpec.upto fnExactSameOutcomeSpec)

/-- 'laws.FnExactIsTrue', WHERE WHAT IT READS IS OF BULK AT MOST 1048576: true; the input reads as it did. -/
def fnExactIsTrueUptoRow : OpenClaim := { program := "ytdgjbpefbkgnpaa", sum := "f97c95036de13636e2c8d4ff0a2b347f95d1996c66ecea0c70ff61149fea212e", func := "loop.example/g00115/laws.FnExactIsTrue", spec := "fnExactIsTrue", apart := false, narrowed := true }
def FnExactIsTrueUptoSaid : Prop := fnExactIsTrueUptoRow.holds Try.pinned (OpenSpec.upto fnExactIsTrueSpec)

/-- 'laws.FnExactJoin', WHERE WHAT IT READS IS OF BULK AT MOST 1048576: true; the input reads as it did. -/
def fnExactJoinUptoRow : OpenClaim := { program := "ytdgjbpefbkgnpaa", sum := "f97c95036de13636e2c8d4ff0a2b347f95d1996c66ecea0c70ff61149fea212e", func := "loop.example/g00115/laws.FnExactJoin", spec := "fnExactJoin", apart := false, narrowed := true }
def FnExactJoinUptoSaid : Prop := fnExactJoinUptoRow.holds Try.pinned (OpenSpec.upto fnExactJoinSpec)

/-- 'laws.FnParts', WHERE WHAT IT READS IS OF BULK AT MOST 1048576: true; the input reads as it did. -/
def fnPartsUptoRow : OpenClaim := { program := "ytdgjbpefbkgnpaa", sum := "f97c95036de13636e2c8d4ff0a2b347f95d1996c66ecea0c70ff61149fea212e", func := "loop.example/g00115/laws.FnParts", spec := "fnParts", apart := false, narrowed := true }
def FnPartsUptoSaid : Prop := fnPartsUptoRow.holds Try.pinned (OpenSpec.upto fnPartsSpec)

/-- 'laws.FnExactSameImage', WHERE WHAT IT READS IS OF BULK AT MOST 1048576: true; the input reads as it did. -/
def fnExactSameImageUptoRow : OpenClaim := { program := "ytdgjbpefbkgnpaa", sum := "f97c95036de13636e2c8d4ff0a2b347f95d1996c66ecea0c70ff61149fea212e", func := "loop.example/g00115/laws.FnExactSameImage", spec := "fnExactSameImage", unfollowed := true, recurses := true, apart := false, narrowed := true }
def FnExactSameImageUptoSaid : Prop := fnExactSameImageUptoRow.holds Try.pinned (OpenSpec.upto fnExactSameImageSpec)

/-- 'laws.FnExactTreeOk', WHERE WHAT IT READS IS OF BULK AT MOST 1048576: true; the input reads as it did. -/
def fnExactTreeOkUptoRow : OpenClaim := { program := "ytdgjbpefbkgnpaa", sum := "f97c95036de13636e2c8d4ff0a2b347f95d1996c66ecea0c70ff61149fea212e", func := "loop.example/g00115/laws.FnExactTreeOk", spec := "fnExactTreeOk", unfollowed := true, recurses := true, apart := false, narrowed := true }
def FnExactTreeOkUptoSaid : Prop := fnExactTreeOkUptoRow.holds Try.pinned (OpenSpec.upto fnExactTreeOkSpec)

end Rows
end Go.Proofs.Ytdgjbpefbkgnpaa
