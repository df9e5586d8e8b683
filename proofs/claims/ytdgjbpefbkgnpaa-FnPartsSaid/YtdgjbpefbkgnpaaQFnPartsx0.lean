import Derived.Test.YtdgjbpefbkgnpaaProg
import Derived.Below
import Derived.Deep.Draws
import Derived.Deep.AppendLies
import Derived.Maps.AppendAt
import Derived.OwnWalk
import Derived.Laws.BytesArg
import Derived.Laws.MakeOwn
import Derived.Laws.OwnMore
import Derived.Deep.OwnRows
import Derived.Tactics
import Derived.Lib.ConvBytes
import Derived.Laws.Slices
import Derived.WalkKit
import Derived.KernelRfl
import Derived.RowKit3
import Derived.Deep.LoopGhost
import Derived.Deep.QuietTactic
import Derived.BigQuiet
import Derived.WideLaws
import Derived.Deep.DeepCutAuto
import Derived.Deep.CutBlock
import Derived.Deep.RegionHeld3
import Derived.Laws.Rows
import Derived.Lib.AppendStr
import Derived.ArgAppend
import Derived.Laws.IdiomCopy
import Derived.OrdersHeld
import Derived.Laws.BitsLemmas
import Derived.RowKit
import Derived.Test.YtdgjbpefbkgnpaaWWords
import Derived.Test.YtdgjbpefbkgnpaaWLast
import Derived.Test.YtdgjbpefbkgnpaaWTab
import Derived.Test.YtdgjbpefbkgnpaaWFour
import Derived.Test.YtdgjbpefbkgnpaaWQPut
import Derived.Test.YtdgjbpefbkgnpaaWApart
import Derived.Test.YtdgjbpefbkgnpaaWArr
import Derived.Test.YtdgjbpefbkgnpaaWZeros
import Derived.Test.YtdgjbpefbkgnpaaWFoot
import Derived.Test.YtdgjbpefbkgnpaaWKept
import Derived.Test.YtdgjbpefbkgnpaaWShare
import Derived.Test.YtdgjbpefbkgnpaaWN
import Derived.Test.YtdgjbpefbkgnpaaWFootNe
import Derived.Test.YtdgjbpefbkgnpaaWAt
import Derived.Test.YtdgjbpefbkgnpaaWEqStruct
import Derived.Test.YtdgjbpefbkgnpaaWRepsOne
import Derived.Test.YtdgjbpefbkgnpaaWInv
import Derived.Test.YtdgjbpefbkgnpaaWInvWords
import Derived.Test.YtdgjbpefbkgnpaaWGuard
import Derived.Test.YtdgjbpefbkgnpaaWNEv
import Derived.Test.YtdgjbpefbkgnpaaWMore
namespace Go.Proofs.Ytdgjbpefbkgnpaa.QFnParts
open Go.RowKit Go.Proofs.YtdgjbpefbkgnpaaW.PrintWords Go.Proofs.YtdgjbpefbkgnpaaW.PrintLast Go.Proofs.YtdgjbpefbkgnpaaW.PrintMore
theorem run_field61_0 (a0 a1 a2 a3 : Value) (w : World) : (Instr.field 61 (.agg #[a0, a1, a2, a3]) 0).run Try.prog w = .ok a0 w := by kernel_rfl
theorem max2_mx (k k' : IntKind) (x y : Int) : Builtin.max2 (.int k x) (.int k' y) = pure (.int k (mx x y)) := by rw [max2_int]; rfl
theorem min2_mn (k k' : IntKind) (x y : Int) : Builtin.min2 (.int k x) (.int k' y) = pure (.int k (mn x y)) := by rw [min2_int]; rfl
attribute [local go_sem] max_two min_two max_three min_three max_four min_four run_field61_0 max2_mx min2_mn   -- for this text's walks alone
set_option linter.unusedVariables false
set_option linter.unusedSimpArgs false



def errW : Option Int → Value
  | none => .nilIface
  | some c => .iface 0 (.int .i64 c)
theorem errW_none : errW none = .nilIface := rfl
theorem errW_some (c : Int) : errW (some c) = .iface 0 (.int .i64 c) := rfl

theorem info22 : (Try.prog.info? 22).map (fun i => (i.zero, i.size, i.bytes)) = some (some (.int .u64 0), 1, 8) := by kernel_rfl
-- the values' own types

end Go.Proofs.Ytdgjbpefbkgnpaa.QFnParts
