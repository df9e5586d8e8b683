/- Contracts of the laws' own functions, by program: a copy of what they are handed, all new. No condition beyond what the arguments read as. -/
import Derived.Test.YtdgjbpefbkgnpaaKinds
import Derived.Test.YtdgjbpefbkgnpaaLaw
import Derived.Test.YtdgjbpefbkgnpaaNum
import Derived.WalkKit
import Derived.KernelRfl
import Derived.Deep.LoopGhost
import Derived.Deep.QuietTactic
import Derived.BigQuiet
import Derived.RowKit3
import Derived.Deep.RegionWith
import Derived.Deep.RegionHeld3
import Derived.WalkLawsBesides
import Derived.Test.YtdgjbpefbkgnpaaMem
import Derived.Test.YtdgjbpefbkgnpaaToA
namespace Go.Proofs.Ytdgjbpefbkgnpaa
open Go.RowKit Go.Proofs.YtdgjbpefbkgnpaaW.PrintWords Go.Proofs.YtdgjbpefbkgnpaaW.PrintMore Go.Proofs.Ytdgjbpefbkgnpaa.Law Go.Proofs.Ytdgjbpefbkgnpaa.Num
set_option linter.unusedVariables false
set_option linter.unusedSimpArgs false
set_option autoImplicit false
def LenState (x : State) : Prop := x.regs.length ≤ 1048576
set_option maxHeartbeats 4000000 in
set_option maxRecDepth 100000 in
theorem toState (x : State) (cs : List Value) (w : World) (hk : kStateL.K w x cs) (hl : LenState x) :
    Calls Try.prog 38 #[.agg ⟨cs⟩] w fun e w' => ∃ ds, e = .returned (.agg ⟨ds⟩) ∧ kStateI.M w' w.heap.size (fun _ => True) x ds ∧ Below w.heap.size w w' := by
  obtain ⟨pA1, pc1, rfl, pl1, pg1⟩ := kStateL_open hk
  have pG1 := Aside0.mk pg1; clear pg1 pl1
  clear hk; unfold LenState at hl
  have HL := Aside0.mk hl; clear hl
  have hu := Try.underlying51; have hu2 := Try.underlying36
  have M0 := Aside0.mk ((((Mem.start w).allocAt rfl #[.int .i64 x.acc, .slice pA1 x.regs.length pc1] 51).allocAt (g := (w.heap.size + 1)) (by simp) #[.int .i64 0, .slice none 0 0] 36).allocAt (g := (w.heap.size + 1 + 1)) (by simp) #[.int .i64 x.acc, .slice none 0 0] 36)
  go_enter Try.func38, Try.ntmps38
  go_wp2_with fail
  refine (toIntS _ _ x.regs _ (Kd.C_below pG1.out M0.out.below) HL.out).mono ?_
  rintro e w1 ⟨v, rfl, ho, hb⟩; obtain ⟨vA1, vc1, rfl⟩ := Kd.R_slice ho
  have N1 := Aside0.mk (M0.out.pushR hb ho); clear ho hb M0
  have M2 := Aside0.mk (Mem.set (A := [_]) N1.out 1 (.slice vA1 x.regs.length vc1) (cs' := #[.int .i64 x.acc, .slice vA1 x.regs.length vc1]) rfl)
  have za := N1.out.box (.tail _ (.tail _ (.tail _ (.head _)))); have zo := N1.out.box (.tail _ (.head _)); have fo := N1.out.free (.tail _ (.head _)); have zr := N1.out.box (.tail _ (.tail _ (.head _))); have fr := N1.out.free (.tail _ (.tail _ (.head _)))
  go_wp2
  have Z0 := Aside0.mk (Mem.set (A := [_, _]) M2.out 0 (.int .i64 x.acc) (cs' := #[.int .i64 x.acc, .slice none 0 0]) rfl); clear M2
  have Z1 := Aside0.mk (Mem.set (A := [_, _]) Z0.out 1 (.slice vA1 x.regs.length vc1) (cs' := #[.int .i64 x.acc, .slice vA1 x.regs.length vc1]) rfl); clear Z0
  refine bodyPost_ret (results_cell_row rfl _ _ (w.heap.size + 1) 36 #[.int .i64 x.acc, .slice vA1 x.regs.length vc1] (0, 0) _ rfl (Z1.out.blk (.tail _ (.tail _ (.head _)))) hu2 rfl (by kernel_rfl)) rfl ?_
  exact ⟨_, rfl, kStateI_mkM _ _ _ x (Z1.out.rowT (.head _)), Z1.out.below⟩
end Go.Proofs.Ytdgjbpefbkgnpaa
