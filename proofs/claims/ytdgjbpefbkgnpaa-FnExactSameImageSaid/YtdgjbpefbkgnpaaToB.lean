/- Contracts of the laws' own functions, by program: a copy of what they are handed, all new. No condition beyond what the arguments read as. -/
import Derived.Test.YtdgjbpefbkgnpaaKinds
import Derived.Test.YtdgjbpefbkgnpaaLaw
import Derived.Test.YtdgjbpefbkgnpaaNum
import Derived.WalkKit
import Derived.KernelRfl
import Derived.Deep.LoopGhost
import Derived.Deep.QuietTactic
import Derived.BigQuiet
import Derived.RowKit3
import Derived.Deep.RegionWith
import Derived.Deep.RegionHeld3
import Derived.WalkLawsBesides
import Derived.Test.YtdgjbpefbkgnpaaMem
import Derived.Test.YtdgjbpefbkgnpaaToA
namespace Go.Proofs.Ytdgjbpefbkgnpaa
open Go.RowKit Go.Proofs.YtdgjbpefbkgnpaaW.PrintWords Go.Proofs.YtdgjbpefbkgnpaaW.PrintMore Go.Proofs.Ytdgjbpefbkgnpaa.Law Go.Proofs.Ytdgjbpefbkgnpaa.Num
set_option linter.unusedVariables false
set_option linter.unusedSimpArgs false
set_option autoImplicit false
def LenFunc (x : Func) : Prop := x.caps.length ≤ 1048576 ∧ x.code.length ≤ 1048576 ∧ x.handlers.length ≤ 1048576
set_option maxHeartbeats 4000000 in
set_option maxRecDepth 100000 in
theorem toFunc (x : Func) (cs : List Value) (w : World) (hk : kFuncL.K w x cs) (hl : LenFunc x) :
    Calls Try.prog 116 #[.agg ⟨cs⟩] w fun e w' => ∃ ds, e = .returned (.agg ⟨ds⟩) ∧ kFuncI.M w' w.heap.size (fun _ => True) x ds ∧ Below w.heap.size w w' := by
  obtain ⟨pA2, pc2, pA3, pc3, pA4, pc4, rfl, pl2, pg2, pl3, pg3, pl4, pg4⟩ := kFuncL_open hk
  have pG2 := Aside0.mk pg2; clear pg2 pl2
  have pG3 := Aside0.mk pg3; clear pg3 pl3
  have pG4 := Aside0.mk pg4; clear pg4 pl4
  clear hk; unfold LenFunc at hl
  have HL := Aside0.mk hl; clear hl
  have hu := Try.underlying154; have hu2 := Try.underlying111
  have M0 := Aside0.mk ((((Mem.start w).allocAt rfl #[.int .i64 x.params, .int .i64 x.regs, .slice pA2 x.caps.length pc2, .slice pA3 x.code.length pc3, .slice pA4 x.handlers.length pc4] 154).allocAt (g := (w.heap.size + 1)) (by simp) #[.int .i64 0, .int .i64 0, .slice none 0 0, .slice none 0 0, .slice none 0 0] 111).allocAt (g := (w.heap.size + 1 + 1)) (by simp) #[.int .i64 x.params, .int .i64 x.regs, .slice none 0 0, .slice none 0 0, .slice none 0 0] 111)
  go_enter Try.func116, Try.ntmps116
  go_wp2_with fail
  refine (toCapS _ _ x.caps _ (Kd.C_below pG2.out M0.out.below) HL.out.1).mono ?_
  rintro e w2 ⟨v, rfl, ho, hb⟩; obtain ⟨vA2, vc2, rfl⟩ := Kd.R_slice ho
  have N2 := Aside0.mk (M0.out.pushR hb ho); clear ho hb M0
  have M3 := Aside0.mk (Mem.set (A := [_]) N2.out 2 (.slice vA2 x.caps.length vc2) (cs' := #[.int .i64 x.params, .int .i64 x.regs, .slice vA2 x.caps.length vc2, .slice none 0 0, .slice none 0 0]) rfl)
  have za := N2.out.box (.tail _ (.tail _ (.tail _ (.head _)))); have zo := N2.out.box (.tail _ (.head _)); have fo := N2.out.free (.tail _ (.head _)); have zr := N2.out.box (.tail _ (.tail _ (.head _))); have fr := N2.out.free (.tail _ (.tail _ (.head _)))
  go_wp2_with fail
  clear za zo fo zr fr N2
  refine (toInsS _ _ x.code _ (Kd.C_below pG3.out M3.out.below) HL.out.2.1).mono ?_
  rintro e w3 ⟨v, rfl, ho, hb⟩; obtain ⟨vA3, vc3, rfl⟩ := Kd.R_slice ho
  have N3 := Aside0.mk (M3.out.pushR hb ho); clear ho hb M3
  have M4 := Aside0.mk (Mem.set (A := [_, _]) N3.out 3 (.slice vA3 x.code.length vc3) (cs' := #[.int .i64 x.params, .int .i64 x.regs, .slice vA2 x.caps.length vc2, .slice vA3 x.code.length vc3, .slice none 0 0]) rfl)
  have za := N3.out.box (.tail _ (.tail _ (.tail _ (.tail _ (.head _))))); have zo := N3.out.box (.tail _ (.tail _ (.head _))); have fo := N3.out.free (.tail _ (.tail _ (.head _))); have zr := N3.out.box (.tail _ (.tail _ (.tail _ (.head _)))); have fr := N3.out.free (.tail _ (.tail _ (.tail _ (.head _))))
  go_wp2_with fail
  clear za zo fo zr fr N3
  refine (toHandlerS _ _ x.handlers _ (Kd.C_below pG4.out M4.out.below) HL.out.2.2).mono ?_
  rintro e w4 ⟨v, rfl, ho, hb⟩; obtain ⟨vA4, vc4, rfl⟩ := Kd.R_slice ho
  have N4 := Aside0.mk (M4.out.pushR hb ho); clear ho hb M4
  have M5 := Aside0.mk (Mem.set (A := [_, _, _]) N4.out 4 (.slice vA4 x.handlers.length vc4) (cs' := #[.int .i64 x.params, .int .i64 x.regs, .slice vA2 x.caps.length vc2, .slice vA3 x.code.length vc3, .slice vA4 x.handlers.length vc4]) rfl)
  have za := N4.out.box (.tail _ (.tail _ (.tail _ (.tail _ (.tail _ (.head _)))))); have zo := N4.out.box (.tail _ (.tail _ (.tail _ (.head _)))); have fo := N4.out.free (.tail _ (.tail _ (.tail _ (.head _)))); have zr := N4.out.box (.tail _ (.tail _ (.tail _ (.tail _ (.head _))))); have fr := N4.out.free (.tail _ (.tail _ (.tail _ (.tail _ (.head _)))))
  go_wp2
  have Z0 := Aside0.mk (Mem.set (A := [_, _, _, _]) M5.out 0 (.int .i64 x.params) (cs' := #[.int .i64 x.params, .int .i64 0, .slice none 0 0, .slice none 0 0, .slice none 0 0]) rfl); clear M5
  have Z1 := Aside0.mk (Mem.set (A := [_, _, _, _]) Z0.out 1 (.int .i64 x.regs) (cs' := #[.int .i64 x.params, .int .i64 x.regs, .slice none 0 0, .slice none 0 0, .slice none 0 0]) rfl); clear Z0
  have Z2 := Aside0.mk (Mem.set (A := [_, _, _, _]) Z1.out 2 (.slice vA2 x.caps.length vc2) (cs' := #[.int .i64 x.params, .int .i64 x.regs, .slice vA2 x.caps.length vc2, .slice none 0 0, .slice none 0 0]) rfl); clear Z1
  have Z3 := Aside0.mk (Mem.set (A := [_, _, _, _]) Z2.out 3 (.slice vA3 x.code.length vc3) (cs' := #[.int .i64 x.params, .int .i64 x.regs, .slice vA2 x.caps.length vc2, .slice vA3 x.code.length vc3, .slice none 0 0]) rfl); clear Z2
  have Z4 := Aside0.mk (Mem.set (A := [_, _, _, _]) Z3.out 4 (.slice vA4 x.handlers.length vc4) (cs' := #[.int .i64 x.params, .int .i64 x.regs, .slice vA2 x.caps.length vc2, .slice vA3 x.code.length vc3, .slice vA4 x.handlers.length vc4]) rfl); clear Z3
  refine bodyPost_ret (results_cell_row rfl _ _ (w.heap.size + 1) 111 #[.int .i64 x.params, .int .i64 x.regs, .slice vA2 x.caps.length vc2, .slice vA3 x.code.length vc3, .slice vA4 x.handlers.length vc4] (0, 0) _ rfl (Z4.out.blk (.tail _ (.tail _ (.tail _ (.tail _ (.head _)))))) hu2 rfl (by kernel_rfl)) rfl ?_
  exact ⟨_, rfl, kFuncI_mkM _ _ _ x (Z4.out.rowT (.tail _ (.tail _ (.head _)))) (Z4.out.rowT (.tail _ (.head _))) (Z4.out.rowT (.head _)), Z4.out.below⟩
set_option maxHeartbeats 4000000 in
set_option maxRecDepth 100000 in
theorem toFuncS (A : Option Addr) (c : Nat) (l : List Func) (w : World) (hr : kFuncL.C w A l.length l) (hlen : l.length ≤ 1048576) (hl : ∀ y ∈ l, LenFunc y) :
    Calls Try.prog 87 #[.slice A l.length c] w fun e w' => ∃ v, e = .returned v ∧ kFuncI.R 111 w' w.heap.size (fun _ => True) v l ∧ Below w.heap.size w w' := by
  have HR := Aside0.mk hr; clear hr
  have HL := Aside0.mk hl; clear hl
  have HB := Aside0.mk (Below.refl w.heap.size w)
  have hu := Try.underlying154; have hu2 := Try.underlying111
  go_enter Try.func87, Try.ntmps87
  go_wp2_with (refine Kd.R_make kFuncI _ 111 rfl (N := _) rfl _ _ _ rfl (l.length : Int) rfl rfl Try.underlying71 (.agg #[.int .i64 0, .int .i64 0, .slice none 0 0, .slice none 0 0, .slice none 0 0]) 88 (by kernel_rfl) rfl (by decide) (by omega) zFunc (ok := fun _ => True) (okp := fun _ => True) (kFuncI_mkM _ _ _ zFunc (Kd.R_nil _ _ _ _ _) (Kd.R_nil _ _ _ _ _) (Kd.R_nil _ _ _ _ _)) (fun _ hk => hk) trivial (by omega) (by omega) (Below.refl _ _) (Nat.le_refl _) ?_; intro v1 w1 ho hb hg_ hnew_; clear hg_ hnew_ HB; have HO := Aside0.mk ho; have HB := Aside0.mk hb; clear ho hb)
  go_loopw [4] (fun v wr => ∃ (j : Nat) (xs : List Func), v = .int .i64 j ∧ j ≤ l.length ∧ xs.length = l.length ∧ Aside0 (∀ i : Nat, i < j → el zFunc xs i = el zFunc l i) ∧ Aside0 (kFuncI.R 111 wr w.heap.size (fun _ => True) v1 xs) ∧ Aside0 (Below w.heap.size w wr)) (fun v _ => l.length - (intOf v).toNat)
  case atStart => exact ⟨0, _, rfl, by omega, by simp, ⟨fun i hi => by omega⟩, HO, HB⟩
  case round =>
    clear HO HB
    obtain ⟨j, xs, rfl, hj, hn, HE, HO, HB⟩ := hrel
    by_cases hlt : j < l.length
    · obtain ⟨a, qA2, qc2, qA3, qc3, qA4, qc4, rfl, hk, x0, x1, x2, x3, x4⟩ := FuncL_at HR.out j hlt
      replace x0 := (HB.out.cell (World.block_lt_of_cell? w _ x0)).trans x0
      replace x1 := (HB.out.cell (World.block_lt_of_cell? w _ x1)).trans x1
      replace x2 := (HB.out.cell (World.block_lt_of_cell? w _ x2)).trans x2
      replace x3 := (HB.out.cell (World.block_lt_of_cell? w _ x3)).trans x3
      replace x4 := (HB.out.cell (World.block_lt_of_cell? w _ x4)).trans x4
      have HK := Aside0.mk hk; clear hk
      have hb2 : (j : Int) < (l.length : Int) := by omega
      go_wp2_with fail
      refine (toFunc _ _ _ (kFuncL.K_below HB.out HK.out) (HL.out _ (el_mem zFunc hlt))).mono ?_
      rintro e w2 ⟨ds, rfl, hm, hb⟩
      have HO2 := Aside0.mk (Kd.R_below HO.out hb); have HB2 := Aside0.mk (below_step HB.out hb)
      obtain ⟨go, co, hv, gb, gl, cl0, HG0⟩ := Kd.R_form HO.out (by omega)
      rw [hn] at hv; subst hv; clear HG0
      obtain ⟨ce, hcl, hM, hcc, hfr⟩ := Kd.R_elem HO2.out zFunc (j : Int) (by omega) (by omega)
      obtain ⟨u2, u3, u4, rfl, _, _, _⟩ := kFuncI_openM hM
      obtain ⟨t2, t3, t4, rfl, r2, r3, r4⟩ := kFuncI_openM hm
      obtain ⟨tA2, tc2, rfl⟩ := Kd.R_slice r2
      obtain ⟨tA3, tc3, rfl⟩ := Kd.R_slice r3
      obtain ⟨tA4, tc4, rfl⟩ := Kd.R_slice r4
      clear r2 r3 r4
      rw [Int.toNat_natCast] at hcc hfr
      have y0 := hcc 0 _ rfl; replace y0 : w2.cell? ⟨go, j * 5, none⟩ = _ := y0; have f0 := hfr 0; replace f0 : w2.frozen? ⟨go, j * 5, none⟩ = false := f0
      have y1 := hcc 1 _ rfl; replace y1 : w2.cell? ⟨go, j * 5 + 1, none⟩ = _ := y1; have f1 := hfr 1; replace f1 : w2.frozen? ⟨go, j * 5 + 1, none⟩ = false := f1
      have y2 := hcc 2 _ rfl; replace y2 : w2.cell? ⟨go, j * 5 + 2, none⟩ = _ := y2; have f2 := hfr 2; replace f2 : w2.frozen? ⟨go, j * 5 + 2, none⟩ = false := f2
      have y3 := hcc 3 _ rfl; replace y3 : w2.cell? ⟨go, j * 5 + 3, none⟩ = _ := y3; have f3 := hfr 3; replace f3 : w2.frozen? ⟨go, j * 5 + 3, none⟩ = false := f3
      have y4 := hcc 4 _ rfl; replace y4 : w2.cell? ⟨go, j * 5 + 4, none⟩ = _ := y4; have f4 := hfr 4; replace f4 : w2.frozen? ⟨go, j * 5 + 4, none⟩ = false := f4
      have kk := kFuncI.M_bound hm
      have HP := Aside0.mk (Kd.R_seg HO2.out (j : Int) (by omega) (by omega) (seg := [.int .i64 (el zFunc l j).params, .int .i64 (el zFunc l j).regs, .slice tA2 (el zFunc l j).caps.length tc2, .slice tA3 (el zFunc l j).code.length tc3, .slice tA4 (el zFunc l j).handlers.length tc4]) (j := 0) hcl (by rw [Int.toNat_natCast]; exact hcc) (show 5 ≤ 5 from by decide) (x' := el zFunc l j) (kFuncI.M_lower HB.out.size kk) (fun k hk => ⟨trivial, fun h => by have := hk.2.1; omega⟩)).1
      clear kk hm
      have GB := Aside0.mk gb
      clear gb gl hcl hcc hfr hM hb HO HB
      go_wp2
      go_roundw
      case measure => simp [intOf]; omega
      case rel => exact ⟨j + 1, _, by go_num, by omega, by simpa using hn, ⟨fun i hi => by rcases Nat.lt_succ_iff_lt_or_eq.1 hi with h | h; (rw [el_set_ne (by omega)]; exact HE.out i h); subst h; exact el_set_eq (by omega)⟩, HP, ⟨below_set (below_set (below_set (below_set (below_set (HB2.out) GB.out) GB.out) GB.out) GB.out) GB.out⟩⟩
    · have hb2 : ¬ (j : Int) < (l.length : Int) := by omega
      have he : xs = l := el_ext zFunc hn (fun i hi => HE.out i (by omega))
      subst he
      go_wp2
      go_ret
      exact ⟨_, rfl, HO.out, HB.out⟩
def LenImage (x : Image) : Prop := x.funcs.length ≤ 1048576 ∧ (∀ y ∈ x.funcs, LenFunc y) ∧ x.consts.length ≤ 1048576
set_option maxHeartbeats 4000000 in
set_option maxRecDepth 100000 in
theorem toImage (x : Image) (cs : List Value) (w : World) (hk : kImageL.K w x cs) (hl : LenImage x) :
    Calls Try.prog 49 #[.agg ⟨cs⟩] w fun e w' => ∃ ds, e = .returned (.agg ⟨ds⟩) ∧ kImageI.M w' w.heap.size (fun _ => True) x ds ∧ Below w.heap.size w w' := by
  obtain ⟨pA0, pc0, pA1, pc1, rfl, pl0, pg0, pl1, pg1⟩ := kImageL_open hk
  have pG0 := Aside0.mk pg0; clear pg0 pl0
  have pG1 := Aside0.mk pg1; clear pg1 pl1
  clear hk; unfold LenImage at hl
  have HL := Aside0.mk hl; clear hl
  have hu := Try.underlying68; have hu2 := Try.underlying74
  have M0 := Aside0.mk ((((Mem.start w).allocAt rfl #[.slice pA0 x.funcs.length pc0, .slice pA1 x.consts.length pc1] 68).allocAt (g := (w.heap.size + 1)) (by simp) #[.slice none 0 0, .slice none 0 0] 74).allocAt (g := (w.heap.size + 1 + 1)) (by simp) #[.slice none 0 0, .slice none 0 0] 74)
  go_enter Try.func49, Try.ntmps49
  go_wp2_with fail
  refine (toFuncS _ _ x.funcs _ (Kd.C_below pG0.out M0.out.below) HL.out.1 HL.out.2.1).mono ?_
  rintro e w0 ⟨v, rfl, ho, hb⟩; obtain ⟨vA0, vc0, rfl⟩ := Kd.R_slice ho
  have N0 := Aside0.mk (M0.out.pushR hb ho); clear ho hb M0
  have M1 := Aside0.mk (Mem.set (A := [_]) N0.out 0 (.slice vA0 x.funcs.length vc0) (cs' := #[.slice vA0 x.funcs.length vc0, .slice none 0 0]) rfl)
  have za := N0.out.box (.tail _ (.tail _ (.tail _ (.head _)))); have zo := N0.out.box (.tail _ (.head _)); have fo := N0.out.free (.tail _ (.head _)); have zr := N0.out.box (.tail _ (.tail _ (.head _))); have fr := N0.out.free (.tail _ (.tail _ (.head _)))
  go_wp2_with fail
  clear za zo fo zr fr N0
  refine (toConstS _ _ x.consts _ (Kd.C_below pG1.out M1.out.below) HL.out.2.2).mono ?_
  rintro e w1 ⟨v, rfl, ho, hb⟩; obtain ⟨vA1, vc1, rfl⟩ := Kd.R_slice ho
  have N1 := Aside0.mk (M1.out.pushR hb ho); clear ho hb M1
  have M2 := Aside0.mk (Mem.set (A := [_, _]) N1.out 1 (.slice vA1 x.consts.length vc1) (cs' := #[.slice vA0 x.funcs.length vc0, .slice vA1 x.consts.length vc1]) rfl)
  have za := N1.out.box (.tail _ (.tail _ (.tail _ (.tail _ (.head _))))); have zo := N1.out.box (.tail _ (.tail _ (.head _))); have fo := N1.out.free (.tail _ (.tail _ (.head _))); have zr := N1.out.box (.tail _ (.tail _ (.tail _ (.head _)))); have fr := N1.out.free (.tail _ (.tail _ (.tail _ (.head _))))
  go_wp2
  have Z0 := Aside0.mk (Mem.set (A := [_, _, _]) M2.out 0 (.slice vA0 x.funcs.length vc0) (cs' := #[.slice vA0 x.funcs.length vc0, .slice none 0 0]) rfl); clear M2
  have Z1 := Aside0.mk (Mem.set (A := [_, _, _]) Z0.out 1 (.slice vA1 x.consts.length vc1) (cs' := #[.slice vA0 x.funcs.length vc0, .slice vA1 x.consts.length vc1]) rfl); clear Z0
  refine bodyPost_ret (results_cell_row rfl _ _ (w.heap.size + 1) 74 #[.slice vA0 x.funcs.length vc0, .slice vA1 x.consts.length vc1] (0, 0) _ rfl (Z1.out.blk (.tail _ (.tail _ (.tail _ (.head _))))) hu2 rfl (by kernel_rfl)) rfl ?_
  exact ⟨_, rfl, kImageI_mkM _ _ _ x (Z1.out.rowT (.tail _ (.head _))) (Z1.out.rowT (.head _)), Z1.out.below⟩
def LenState (x : State) : Prop := x.regs.length ≤ 1048576
set_option maxHeartbeats 4000000 in
set_option maxRecDepth 100000 in
theorem toState (x : State) (cs : List Value) (w : World) (hk : kStateL.K w x cs) (hl : LenState x) :
    Calls Try.prog 38 #[.agg ⟨cs⟩] w fun e w' => ∃ ds, e = .returned (.agg ⟨ds⟩) ∧ kStateI.M w' w.heap.size (fun _ => True) x ds ∧ Below w.heap.size w w' := by
  obtain ⟨pA1, pc1, rfl, pl1, pg1⟩ := kStateL_open hk
  have pG1 := Aside0.mk pg1; clear pg1 pl1
  clear hk; unfold LenState at hl
  have HL := Aside0.mk hl; clear hl
  have hu := Try.underlying51; have hu2 := Try.underlying36
  have M0 := Aside0.mk ((((Mem.start w).allocAt rfl #[.int .i64 x.acc, .slice pA1 x.regs.length pc1] 51).allocAt (g := (w.heap.size + 1)) (by simp) #[.int .i64 0, .slice none 0 0] 36).allocAt (g := (w.heap.size + 1 + 1)) (by simp) #[.int .i64 x.acc, .slice none 0 0] 36)
  go_enter Try.func38, Try.ntmps38
  go_wp2_with fail
  refine (toIntS _ _ x.regs _ (Kd.C_below pG1.out M0.out.below) HL.out).mono ?_
  rintro e w1 ⟨v, rfl, ho, hb⟩; obtain ⟨vA1, vc1, rfl⟩ := Kd.R_slice ho
  have N1 := Aside0.mk (M0.out.pushR hb ho); clear ho hb M0
  have M2 := Aside0.mk (Mem.set (A := [_]) N1.out 1 (.slice vA1 x.regs.length vc1) (cs' := #[.int .i64 x.acc, .slice vA1 x.regs.length vc1]) rfl)
  have za := N1.out.box (.tail _ (.tail _ (.tail _ (.head _)))); have zo := N1.out.box (.tail _ (.head _)); have fo := N1.out.free (.tail _ (.head _)); have zr := N1.out.box (.tail _ (.tail _ (.head _))); have fr := N1.out.free (.tail _ (.tail _ (.head _)))
  go_wp2
  have Z0 := Aside0.mk (Mem.set (A := [_, _]) M2.out 0 (.int .i64 x.acc) (cs' := #[.int .i64 x.acc, .slice none 0 0]) rfl); clear M2
  have Z1 := Aside0.mk (Mem.set (A := [_, _]) Z0.out 1 (.slice vA1 x.regs.length vc1) (cs' := #[.int .i64 x.acc, .slice vA1 x.regs.length vc1]) rfl); clear Z0
  refine bodyPost_ret (results_cell_row rfl _ _ (w.heap.size + 1) 36 #[.int .i64 x.acc, .slice vA1 x.regs.length vc1] (0, 0) _ rfl (Z1.out.blk (.tail _ (.tail _ (.head _)))) hu2 rfl (by kernel_rfl)) rfl ?_
  exact ⟨_, rfl, kStateI_mkM _ _ _ x (Z1.out.rowT (.head _)), Z1.out.below⟩
end Go.Proofs.Ytdgjbpefbkgnpaa
