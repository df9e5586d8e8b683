/- Part 21 of the proof: general lemmas, contracts of functions, walks. No condition of its own. -/
import Derived.WalkKit
import Derived.KernelRfl
import Derived.Deep.LoopGhost
import Derived.Deep.QuietTactic
import Derived.BigQuiet
import Derived.RowKit3
import Derived.Deep.RegionWith
import Derived.Deep.RegionHeld3
import Derived.WalkLawsBesides
import Derived.IntWalk
import Derived.Deep.DeepCutAuto
import Derived.ProofKit
import Derived.OpenShut
import Derived.ChangeOld
import Derived.ChangeShapes
import Derived.WideShapes
import Derived.ChangeArms
import Derived.DataReads
import Derived.DataElems
import Derived.Test.YtcbaokflimdjnaaBr20
import Derived.Test.YtcbaokflimdjnaaBr19
import Derived.Test.YtcbaokflimdjnaaBr9
import Derived.Test.YtcbaokflimdjnaaBr15
import Derived.Test.YtcbaokflimdjnaaBr3
import Derived.Test.YtcbaokflimdjnaaBr5
import Derived.Test.YtcbaokflimdjnaaBr1
set_option linter.unusedVariables false
set_option linter.unusedSimpArgs false
set_option autoImplicit false
section
namespace Go.Proofs.Ytcbaokflimdjnaa.Law
open Go.RowKit Go.Proofs.YtcbaokflimdjnaaW.PrintWords Go.Proofs.YtcbaokflimdjnaaW.PrintLast Go.Proofs.Ytcbaokflimdjnaa.Steps Go.Proofs.YtcbaokflimdjnaaW.PrintMore Go.Proofs.Ytcbaokflimdjnaa.Num Go.Proofs.Ytcbaokflimdjnaa
set_option maxHeartbeats 2000000 in
set_option maxRecDepth 100000 in
theorem cCopyS (x : Image) (A0 : Option Addr) (c0 : Nat) (A1 : Option Addr) (c1 : Nat) (w : World) (hi : imgB x = true) (l0 : x.funcs.length ≤ c0) (g0 : kFuncI.C w A0 x.funcs.length x.funcs) (l1 : x.consts.length ≤ c1) (g1 : kConst.C w A1 x.consts.length x.consts) :
  Calls Try.prog 86 #[.agg #[.slice A0 x.funcs.length c0, .slice A1 x.consts.length c1]] w fun e w' => ∃ ds, e = .returned (.agg ⟨ds⟩) ∧ kImageI.M w' w.heap.size (fun _ => True) x ds ∧ Below w.heap.size w w' := by
 have hu0 := Try.underlying37; have hu1 := Try.underlying73; have hu2 := Try.underlying34; have hu3 := Try.underlying35; have hu4 := Try.underlying69; have hu5 := Try.underlying70; have hu6 := Try.underlying71; have hu7 := Try.underlying3
 have G0 := Aside0.mk g0; have G1 := Aside0.mk g1; have HI := Aside0.mk hi
 have hcl := (img_len hi).2.2; have hfl := (img_len hi).2.1
 obtain ⟨fa, _, _, _, _, _, _, hfa, _⟩ := func_at6 g0 0 (img_len hi).1
 subst hfa
 clear g0 g1 hi
 have M1 := Aside0.mk (((Mem.start w).allocAt rfl #[.slice (some fa) x.funcs.length c0, .slice A1 x.consts.length c1] 37).allocAt (g := w.heap.size + 1) (by simp) #[.slice none 0 0, .slice none 0 0] 37)
 have z0 := M1.out.box (.tail _ (.head _))
 go_enter Try.func86, Try.ntmps86
 go_upto_region 1 with fail
 generalize hw1 : (w.alloc (.cells #[.slice (some fa) x.funcs.length c0, .slice A1 x.consts.length c1] 37)).alloc (.cells #[.slice none 0 0, .slice none 0 0] 37) = w1 at M1 z0 ⊢
 clear hw1
 go_upto_region 2 with (first | ((with_reducible refine gate_dst (N := 6) rfl ?_); refine Kd.R_lit kConst (w0 := w1) w1.heap.size 100 ?hg (N := 6) ?hd (xs := ([] : List Const)) (inner := []) (ok := fun _ => True) (okp := fun _ => True) ?hr ?hp (fun _ hk => hk) trivial (Below.refl _ _) (Nat.le_refl _) (by simp) ?_; (case hd => rfl); (case hg => rfl); (case hr => first | (go_simp; done) | (go_simp; rfl)); (case hp => exact (Reps.none _ _)); intro v5 w5 ho hb hg_ hnew_; clear hg_ hnew_; have HO5 := Aside0.mk ho; have HB5 := Aside0.mk hb; clear ho hb; have z0 := (M1.out.step HB5.out).box (.tail _ (.head _))) | ((with_reducible refine gate_builtin (b := .append) (xs := #[.tmp 6, .tmp 8]) rfl ?_); at_builtin; refine Kd.R_append_rows kConst (Rr := kConst.K w5) (w0 := w1) w1.heap.size rfl (.tmp 6) (.tmp 8) 35 100 (.agg #[.int .i64 0, .int .u64 0, .string (⟨#[]⟩ : ByteArray)]) 32 rfl Try.underlying35 (by kernel_rfl) rfl (by decide) (by omega) v5 [] x.consts _ _ _ (fun _ => True) (fun _ => False) rfl rfl ?aO ?aR ?aM (fun _ h => h.elim) ?aF ?aB ?aS ?aL ?_; (case aR => exact Kd.C_below G1.out (M1.out.step HB5.out).below); (case aM => intro _ _ h; have e := kConst_open h; subst e; exact kConst_mkM _ _ _ _); (case aO => exact HO5.out); (case aF => exact fun _ _ => trivial); (case aB => exact HB5.out); (case aS => exact HB5.out.size); (case aL => simp; omega); intro v6 w6 ho hb hg_ hat_; clear hg_ hat_; rw [List.nil_append] at ho; obtain ⟨XC, YC, hvc⟩ := Kd.R_slice ho; subst hvc; have HA := Aside0.mk ho; have HB := Aside0.mk hb; clear ho hb; have z0 := (M1.out.step HB.out).box (.tail _ (.head _))))
 obtain ⟨g, hg⟩ : ∃ g : Nat, g = w6.heap.size := ⟨_, rfl⟩
 obtain ⟨clo, hclo⟩ : ∃ clo : Nat, clo = w1.heap.size := ⟨_, rfl⟩
 have M2 := Aside0.mk ((M1.out.pushR HB.out HA.out).allocAt hg #[.slice none 0 0, .slice XC x.consts.length YC] 37)
 rw [← hg, ← hclo] at M2
 rw [← hg]
 clear M1 HA HB HO5 HB5 z0 hclo
 generalize hwz : w6.alloc (.cells #[.slice none 0 0, .slice XC x.consts.length YC] 37) = wz at M2 ⊢
 clear hwz hg
 have M3 : Aside0 (Mem w wz [Hold.val (Kd.slice 73 kFuncI) wz.heap.size wz.heap.size [] [.slice none 0 0], Hold.box g #[.slice none 0 0, .slice XC x.consts.length YC] 37, Hold.val (Kd.slice 100 kConst) clo g x.consts [.slice XC x.consts.length YC], Hold.box (w.heap.size + 1) #[.slice none 0 0, .slice none 0 0] 37, Hold.box w.heap.size #[.slice (some fa) x.funcs.length c0, .slice A1 x.consts.length c1] 37]) := ⟨M2.out.pushR (Below.refl _ _) (Kd.R_nil kFuncI 73 _ wz.heap.size (fun _ => True))⟩
 have HF := Aside0.mk (show g + 1 ≤ wz.heap.size ∧ g ≤ wz.heap.size ∧ w.heap.size + 2 ≤ wz.heap.size from ⟨(M2.out.fits _ (.head _)).2, (M2.out.fits _ (.tail _ (.head _))).2, (M2.out.fits _ (.tail _ (.tail _ (.head _)))).2⟩)
 obtain ⟨lo, hlo⟩ : ∃ lo : Nat, lo = wz.heap.size := ⟨_, rfl⟩
 rw [← hlo] at M3 HF
 clear hlo M2
 go_upto_region 3 with fail
 go_loopw [4] (fun v wx => ∃ (q hi : Nat) (X : Option Addr) (y : Nat) (l : List Func), v = .int .i64 q ∧ q ≤ x.funcs.length ∧ lo ≤ hi ∧ Aside0 (l = x.funcs.take q) ∧ Aside0 (Mem w wx [Hold.val (Kd.slice 73 kFuncI) lo hi l [.slice X l.length y], Hold.box g #[.slice X l.length y, .slice XC x.consts.length YC] 37, Hold.val (Kd.slice 100 kConst) clo g x.consts [.slice XC x.consts.length YC], Hold.box (w.heap.size + 1) #[.slice none 0 0, .slice none 0 0] 37, Hold.box w.heap.size #[.slice (some fa) x.funcs.length c0, .slice A1 x.consts.length c1] 37])) (fun v _ => x.funcs.length - (intOf v).toNat)
 case atStart => exact ⟨0, lo, none, 0, [], rfl, by omega, Nat.le_refl _, ⟨rfl⟩, M3⟩
 case round =>
 clear M3
 obtain ⟨q, hi, X, y, l, rfl, hq, hhi, HL, M4⟩ := hrel
 have hll : l.length ≤ 16 := by rw [HL.out, List.length_take]; omega
 have z0 := M4.out.box (.tail _ (.tail _ (.tail _ (.tail _ (.head _)))))
 by_cases hlt : q < x.funcs.length
 rotate_left
 ·have hle : ¬ (q : Int) < (x.funcs.length : Int) := by omega
  have HE := Aside0.mk (show l = x.funcs from by rw [HL.out, List.take_of_length_le (by omega)])
  have zg := M4.out.box (.tail _ (.head _)); have b0 := M4.out.box (.tail _ (.tail _ (.tail _ (.head _)))); have b1 := M4.out.free (.tail _ (.tail _ (.tail _ (.head _))))
  have M8 := Aside0.mk (Mem.set (A := [_, _, _]) (Mem.set (A := [_, _, _]) M4.out 0 (.slice X l.length y) rfl) 1 (.slice XC x.consts.length YC) rfl)
  clear M4 HL
  go_wp2
  refine bodyPost_ret (results_cell_row rfl _ _ (w.heap.size + 1) 37 #[.slice X l.length y, .slice XC x.consts.length YC] (0, 0) _ rfl (M8.out.blk (.tail _ (.tail _ (.tail _ (.head _))))) hu0 rfl (by kernel_rfl)) rfl ?_
  have hE := HE.out
  subst hE
  exact ⟨_, rfl, kImageI_mkM _ _ _ x (M8.out.rowT (.head _)) (M8.out.rowT (.tail _ (.tail _ (.head _)))), M8.out.below⟩
 have hle : (q : Int) < (x.funcs.length : Int) := by omega
 have hq0 : (0 : Int) ≤ (q : Int) := by omega
 obtain ⟨f, hfe⟩ : ∃ f, f = el zFunc x.funcs q := ⟨_, rfl⟩
 have HOKF := Aside0.mk (FOk.of (img_func HI.out (el_mem zFunc hlt)))
 have HST := Aside0.mk (show x.funcs.take (q + 1) = l ++ [f] from by rw [HL.out, hfe, List.take_add_one, List.getElem?_eq_getElem hlt, el_lt zFunc hlt]; rfl)
 obtain ⟨fa2, A2, c2, A3, c3, A4, c4, hfa2, x0, x1, x2, x3, x4, ⟨_, g2⟩, ⟨_, g3⟩, ⟨_, g4⟩⟩ := func_at6 G0.out q hlt
 cases hfa2
 rw [← hfe] at x0 x1 x2 x3 x4 g2 g3 g4 HOKF
 clear hfe
 have G2 := Aside0.mk g2; have G3 := Aside0.mk g3; have G4 := Aside0.mk g4
 have hc20 := HOKF.out.caps; have hc300 := HOKF.out.code; have hc40 := HOKF.out.hands
 have y0 := pw_cell_below M4.out.below x0; have y1 := pw_cell_below M4.out.below x1; have y2 := pw_cell_below M4.out.below x2; have y3 := pw_cell_below M4.out.below x3; have y4 := pw_cell_below M4.out.below x4
 clear x0 x1 x2 x3 x4 g2 g3 g4
 obtain ⟨b6, hb6⟩ : ∃ b : Nat, b = wr.heap.size := ⟨_, rfl⟩
 have M5 : Aside0 (Mem w (wr.alloc (.cells #[.int .i64 f.params, .int .i64 f.regs, .slice A2 f.caps.length c2, .slice A3 f.code.length c3, .slice A4 f.handlers.length c4] 73)) [Hold.box b6 #[.int .i64 f.params, .int .i64 f.regs, .slice A2 f.caps.length c2, .slice A3 f.code.length c3, .slice A4 f.handlers.length c4] 73, Hold.val (Kd.slice 73 kFuncI) lo hi l [.slice X l.length y], Hold.box g #[.slice X l.length y, .slice XC x.consts.length YC] 37, Hold.val (Kd.slice 100 kConst) clo g x.consts [.slice XC x.consts.length YC], Hold.box (w.heap.size + 1) #[.slice none 0 0, .slice none 0 0] 37, Hold.box w.heap.size #[.slice (some fa) x.funcs.length c0, .slice A1 x.consts.length c1] 37]) := ⟨M4.out.allocAt hb6 _ _⟩
 have HHI := Aside0.mk (show hi ≤ b6 from by rw [hb6]; exact (M4.out.fits _ (.head _)).2)
 go_upto_region 6 with fail
 rw [← hb6]
 clear y0 y1 y2 y3 y4 z0 M4
 generalize hwa : wr.alloc (.cells #[.int .i64 f.params, .int .i64 f.regs, .slice A2 f.caps.length c2, .slice A3 f.code.length c3, .slice A4 f.handlers.length c4] 73) = wa at M5 ⊢
 clear hwa hb6
 have zb := M5.out.box (.head _); have fb := M5.out.free (.head _)
 go_upto_region 7 with (first | ((with_reducible refine gate_dst (N := 23) rfl ?_); refine Kd.R_lit kCap (w0 := wa) wa.heap.size 105 ?hg (N := 23) ?hd (xs := ([] : List Cap)) (inner := []) (ok := fun _ => True) (okp := fun _ => True) ?hr ?hp (fun _ hk => hk) trivial (Below.refl _ _) (Nat.le_refl _) (by simp) ?_; (case hd => rfl); (case hg => rfl); (case hr => first | (go_simp; done) | (go_simp; rfl)); (case hp => exact (Reps.none _ _)); intro v5 w5 ho hb hg_ hnew_; clear hg_ hnew_; have HO5 := Aside0.mk ho; have HB5 := Aside0.mk hb; clear ho hb; have zb := (M5.out.step HB5.out).box (.head _); have fb := (M5.out.step HB5.out).free (.head _)) | ((with_reducible refine gate_builtin (b := .append) (xs := #[.tmp 23, .tmp 25]) rfl ?_); at_builtin; refine Kd.R_append_rows kCap (Rr := kCap.K w5) (w0 := wa) wa.heap.size rfl (.tmp 23) (.tmp 25) 69 105 (.agg #[.bool false, .int .i64 0]) 16 rfl Try.underlying69 (by kernel_rfl) rfl (by decide) (by omega) v5 [] f.caps _ _ _ (fun _ => True) (fun _ => False) rfl rfl ?aO ?aR ?aM (fun _ h => h.elim) ?aF ?aB ?aS ?aL ?_; (case aR => exact Kd.C_below G2.out (M5.out.step HB5.out).below); (case aM => intro _ _ h; have e := kCap_open h; subst e; exact kCap_mkM _ _ _ _); (case aO => exact HO5.out); (case aF => exact fun _ _ => trivial); (case aB => exact HB5.out); (case aS => exact HB5.out.size); (case aL => simp; omega); intro v6 w6 ho hb hg_ hat_; clear hg_ hat_; rw [List.nil_append] at ho; obtain ⟨X2, Y2, hvc⟩ := Kd.R_slice ho; subst hvc; have HA := Aside0.mk ho; have HB := Aside0.mk hb; clear ho hb; have zb := (M5.out.step HB.out).box (.head _); have fb := (M5.out.step HB.out).free (.head _)))
 obtain ⟨rl2, hrl⟩ : ∃ b : Nat, b = wa.heap.size := ⟨_, rfl⟩
 obtain ⟨rh2, hrh⟩ : ∃ b : Nat, b = w6.heap.size := ⟨_, rfl⟩
 have MP := Aside0.mk (M5.out.pushR HB.out HA.out)
 rw [← hrl, ← hrh] at MP
 have HRL2 := Aside0.mk (show b6 + 1 ≤ rl2 from by rw [hrl]; exact (M5.out.fits _ (.head _)).2)
 have MQ : Aside0 (Mem w (w6.setCell ⟨b6, 2, none⟩ (.slice X2 f.caps.length Y2)) [Hold.box b6 #[.int .i64 f.params, .int .i64 f.regs, .slice X2 f.caps.length Y2, .slice A3 f.code.length c3, .slice A4 f.handlers.length c4] 73, Hold.val (Kd.slice 105 kCap) rl2 rh2 f.caps [.slice X2 f.caps.length Y2], Hold.val (Kd.slice 73 kFuncI) lo hi l [.slice X l.length y], Hold.box g #[.slice X l.length y, .slice XC x.consts.length YC] 37, Hold.val (Kd.slice 100 kConst) clo g x.consts [.slice XC x.consts.length YC], Hold.box (w.heap.size + 1) #[.slice none 0 0, .slice none 0 0] 37, Hold.box w.heap.size #[.slice (some fa) x.funcs.length c0, .slice A1 x.consts.length c1] 37]) := ⟨Mem.swap2 (Mem.set (A := [_]) MP.out 2 (.slice X2 f.caps.length Y2) rfl)⟩
 clear MP zb fb M5 HA HB HO5 HB5 hrl hrh
 generalize w6.setCell ⟨b6, 2, none⟩ (.slice X2 f.caps.length Y2) = wq2 at MQ ⊢
 have MR2 := MQ
 clear MQ
 have zb := MR2.out.box (.head _); have fb := MR2.out.free (.head _)
 go_upto_region 8 with (first | ((with_reducible refine gate_dst (N := 28) rfl ?_); refine Kd.R_lit kIns (w0 := wq2) wq2.heap.size 76 ?hg (N := 28) ?hd (xs := ([] : List Ins)) (inner := []) (ok := fun _ => True) (okp := fun _ => True) ?hr ?hp (fun _ hk => hk) trivial (Below.refl _ _) (Nat.le_refl _) (by simp) ?_; (case hd => rfl); (case hg => rfl); (case hr => first | (go_simp; done) | (go_simp; rfl)); (case hp => exact (Reps.none _ _)); intro v5 w5 ho hb hg_ hnew_; clear hg_ hnew_; have HO5 := Aside0.mk ho; have HB5 := Aside0.mk hb; clear ho hb; have zb := (MR2.out.step HB5.out).box (.head _); have fb := (MR2.out.step HB5.out).free (.head _)) | ((with_reducible refine gate_builtin (b := .append) (xs := #[.tmp 28, .tmp 30]) rfl ?_); at_builtin; refine Kd.R_append_rows kIns (Rr := kIns.K w5) (w0 := wq2) wq2.heap.size rfl (.tmp 28) (.tmp 30) 70 76 (.agg #[.int .i64 0, .int .i64 0, .int .i64 0]) 24 rfl Try.underlying70 (by kernel_rfl) rfl (by decide) (by omega) v5 [] f.code _ _ _ (fun _ => True) (fun _ => False) rfl rfl ?aO ?aR ?aM (fun _ h => h.elim) ?aF ?aB ?aS ?aL ?_; (case aR => exact Kd.C_below G3.out (MR2.out.step HB5.out).below); (case aM => intro _ _ h; have e := kIns_open h; subst e; exact kIns_mkM _ _ _ _); (case aO => exact HO5.out); (case aF => exact fun _ _ => trivial); (case aB => exact HB5.out); (case aS => exact HB5.out.size); (case aL => simp; omega); intro v6 w6 ho hb hg_ hat_; clear hg_ hat_; rw [List.nil_append] at ho; obtain ⟨X3, Y3, hvc⟩ := Kd.R_slice ho; subst hvc; have HA := Aside0.mk ho; have HB := Aside0.mk hb; clear ho hb; have zb := (MR2.out.step HB.out).box (.head _); have fb := (MR2.out.step HB.out).free (.head _)))
 obtain ⟨rl3, hrl⟩ : ∃ b : Nat, b = wq2.heap.size := ⟨_, rfl⟩
 obtain ⟨rh3, hrh⟩ : ∃ b : Nat, b = w6.heap.size := ⟨_, rfl⟩
 have MP := Aside0.mk (MR2.out.pushR HB.out HA.out)
 rw [← hrl, ← hrh] at MP
 have HRL3 := Aside0.mk (show b6 + 1 ≤ rl3 from by rw [hrl]; exact (MR2.out.fits _ (.head _)).2)
 have MQ : Aside0 (Mem w (w6.setCell ⟨b6, 3, none⟩ (.slice X3 f.code.length Y3)) [Hold.box b6 #[.int .i64 f.params, .int .i64 f.regs, .slice X2 f.caps.length Y2, .slice X3 f.code.length Y3, .slice A4 f.handlers.length c4] 73, Hold.val (Kd.slice 76 kIns) rl3 rh3 f.code [.slice X3 f.code.length Y3], Hold.val (Kd.slice 105 kCap) rl2 rh2 f.caps [.slice X2 f.caps.length Y2], Hold.val (Kd.slice 73 kFuncI) lo hi l [.slice X l.length y], Hold.box g #[.slice X l.length y, .slice XC x.consts.length YC] 37, Hold.val (Kd.slice 100 kConst) clo g x.consts [.slice XC x.consts.length YC], Hold.box (w.heap.size + 1) #[.slice none 0 0, .slice none 0 0] 37, Hold.box w.heap.size #[.slice (some fa) x.funcs.length c0, .slice A1 x.consts.length c1] 37]) := ⟨Mem.swap2 (Mem.set (A := [_]) MP.out 3 (.slice X3 f.code.length Y3) rfl)⟩
 clear MP zb fb MR2 HA HB HO5 HB5 hrl hrh
 generalize w6.setCell ⟨b6, 3, none⟩ (.slice X3 f.code.length Y3) = wq3 at MQ ⊢
 have MR3 := MQ
 clear MQ
 have zb := MR3.out.box (.head _); have fb := MR3.out.free (.head _)
 go_upto_region 9 with (first | ((with_reducible refine gate_dst (N := 33) rfl ?_); refine Kd.R_lit kHandler (w0 := wq3) wq3.heap.size 107 ?hg (N := 33) ?hd (xs := ([] : List Handler)) (inner := []) (ok := fun _ => True) (okp := fun _ => True) ?hr ?hp (fun _ hk => hk) trivial (Below.refl _ _) (Nat.le_refl _) (by simp) ?_; (case hd => rfl); (case hg => rfl); (case hr => first | (go_simp; done) | (go_simp; rfl)); (case hp => exact (Reps.none _ _)); intro v5 w5 ho hb hg_ hnew_; clear hg_ hnew_; have HO5 := Aside0.mk ho; have HB5 := Aside0.mk hb; clear ho hb; have zb := (MR3.out.step HB5.out).box (.head _); have fb := (MR3.out.step HB5.out).free (.head _)) | ((with_reducible refine gate_builtin (b := .append) (xs := #[.tmp 33, .tmp 35]) rfl ?_); at_builtin; refine Kd.R_append_rows kHandler (Rr := kHandler.K w5) (w0 := wq3) wq3.heap.size rfl (.tmp 33) (.tmp 35) 71 107 (.agg #[.int .i64 0, .int .i64 0, .int .i64 0]) 24 rfl Try.underlying71 (by kernel_rfl) rfl (by decide) (by omega) v5 [] f.handlers _ _ _ (fun _ => True) (fun _ => False) rfl rfl ?aO ?aR ?aM (fun _ h => h.elim) ?aF ?aB ?aS ?aL ?_; (case aR => exact Kd.C_below G4.out (MR3.out.step HB5.out).below); (case aM => intro _ _ h; have e := kHandler_open h; subst e; exact kHandler_mkM _ _ _ _); (case aO => exact HO5.out); (case aF => exact fun _ _ => trivial); (case aB => exact HB5.out); (case aS => exact HB5.out.size); (case aL => simp; omega); intro v6 w6 ho hb hg_ hat_; clear hg_ hat_; rw [List.nil_append] at ho; obtain ⟨X4, Y4, hvc⟩ := Kd.R_slice ho; subst hvc; have HA := Aside0.mk ho; have HB := Aside0.mk hb; clear ho hb; have zb := (MR3.out.step HB.out).box (.head _); have fb := (MR3.out.step HB.out).free (.head _)))
 obtain ⟨rl4, hrl⟩ : ∃ b : Nat, b = wq3.heap.size := ⟨_, rfl⟩
 obtain ⟨rh4, hrh⟩ : ∃ b : Nat, b = w6.heap.size := ⟨_, rfl⟩
 have MP := Aside0.mk (MR3.out.pushR HB.out HA.out)
 rw [← hrl, ← hrh] at MP
 have HRL4 := Aside0.mk (show b6 + 1 ≤ rl4 from by rw [hrl]; exact (MR3.out.fits _ (.head _)).2)
 have MQ : Aside0 (Mem w (w6.setCell ⟨b6, 4, none⟩ (.slice X4 f.handlers.length Y4)) [Hold.box b6 #[.int .i64 f.params, .int .i64 f.regs, .slice X2 f.caps.length Y2, .slice X3 f.code.length Y3, .slice X4 f.handlers.length Y4] 73, Hold.val (Kd.slice 107 kHandler) rl4 rh4 f.handlers [.slice X4 f.handlers.length Y4], Hold.val (Kd.slice 76 kIns) rl3 rh3 f.code [.slice X3 f.code.length Y3], Hold.val (Kd.slice 105 kCap) rl2 rh2 f.caps [.slice X2 f.caps.length Y2], Hold.val (Kd.slice 73 kFuncI) lo hi l [.slice X l.length y], Hold.box g #[.slice X l.length y, .slice XC x.consts.length YC] 37, Hold.val (Kd.slice 100 kConst) clo g x.consts [.slice XC x.consts.length YC], Hold.box (w.heap.size + 1) #[.slice none 0 0, .slice none 0 0] 37, Hold.box w.heap.size #[.slice (some fa) x.funcs.length c0, .slice A1 x.consts.length c1] 37]) := ⟨Mem.swap2 (Mem.set (A := [_]) MP.out 4 (.slice X4 f.handlers.length Y4) rfl)⟩
 clear MP zb fb MR3 HA HB HO5 HB5 hrl hrh
 generalize w6.setCell ⟨b6, 4, none⟩ (.slice X4 f.handlers.length Y4) = wq4 at MQ ⊢
 have MR4 := MQ
 clear MQ
 have zb := MR4.out.box (.head _); have zg := MR4.out.box (.tail _ (.tail _ (.tail _ (.tail _ (.tail _ (.head _)))))); have fg := MR4.out.free (.tail _ (.tail _ (.tail _ (.tail _ (.tail _ (.head _))))))
 have hlw : lo ≤ wq4.heap.size := Nat.le_trans hhi (MR4.out.fits _ (.tail _ (.tail _ (.tail _ (.tail _ (.head _)))))).2
 go_wp2_with (((with_reducible refine gate_builtin (b := .append) (xs := #[.tmp 39, .tmp 41]) rfl ?_); at_builtin; refine Aside0.out ?_))
 refine ⟨?_⟩
 have h2 := HRL2.out; have h3 := HRL3.out; have h4 := HRL4.out; have hb6 := HHI.out
 refine Kd.R_append kFuncI (w0 := wq4) lo rfl (.tmp 39) (.tmp 41) 34 73 (.agg #[.int .i64 0, .int .i64 0, .slice none 0 0, .slice none 0 0, .slice none 0 0]) 88 rfl Try.underlying34 (by kernel_rfl) rfl (by decide) (by decide) (.slice X l.length y) l f [.int .i64 f.params, .int .i64 f.regs, .slice X2 f.caps.length Y2, .slice X3 f.code.length Y3, .slice X4 f.handlers.length Y4] (fun k => lo ≤ k) (fun k => b6 ≤ k) ?aV ?aX ?aP ?aK (fun k hk => Nat.le_trans hlw hk) (Kd.R_mono (MR4.out.row (.tail _ (.tail _ (.tail _ (.tail _ (.head _)))))) (fun k hk => hk.1)) (Below.refl _ _) hlw (by omega) ?_
 (case aP => exact kFuncI_mkM _ _ _ f (Kd.R_mono (Kd.R_lower (MR4.out.row (.tail _ (.tail _ (.tail _ (.head _))))) (by omega)) (fun k hk => by have := hk.1; omega)) (Kd.R_mono (Kd.R_lower (MR4.out.row (.tail _ (.tail _ (.head _)))) (by omega)) (fun k hk => by have := hk.1; omega)) (Kd.R_mono (Kd.R_lower (MR4.out.row (.tail _ (.head _))) (by omega)) (fun k hk => by have := hk.1; omega)))
 (case aK => exact fun k hk => ⟨by omega, fun e => by have h1 := (MR4.out.row (.tail _ (.tail _ (.tail _ (.tail _ (.head _)))))).1 k e.symm; have h2 : k < hi := h1.2; omega⟩)
 (case aV => first | rfl | (go_simp; done) | (go_simp; rfl))
 (case aX => first | rfl | (go_simp; done) | (go_simp; rfl))
 intro v9 w9 ho hb9 hg9 hat9; clear hg9 hat9
 obtain ⟨A9, y9, hv9⟩ := Kd.R_slice ho; subst hv9
 obtain ⟨ln, hln⟩ : ∃ ln, ln = l ++ [f] := ⟨_, rfl⟩
 have HLN := Aside0.mk (show ln = x.funcs.take (q + 1) from by rw [hln, HST.out])
 rw [← hln] at ho ⊢
 clear hln
 have MN := Aside0.mk (MR4.out.drop.drop.drop.drop)
 have MG : Aside0 (Mem w w9 [Hold.val (Kd.slice 73 kFuncI) lo w9.heap.size ln [.slice A9 ln.length y9], Hold.box g #[.slice X l.length y, .slice XC x.consts.length YC] 37, Hold.val (Kd.slice 100 kConst) clo g x.consts [.slice XC x.consts.length YC], Hold.box (w.heap.size + 1) #[.slice none 0 0, .slice none 0 0] 37, Hold.box w.heap.size #[.slice (some fa) x.funcs.length c0, .slice A1 x.consts.length c1] 37]) := ⟨Mem.grow MN.out (fun h hh => by have hF := HF.out; simp only [List.mem_cons, List.not_mem_nil, or_false] at hh; rcases hh with rfl | rfl | rfl | rfl <;> (simp only [Hold.box, Hold.val]; omega)) hb9 ho⟩
 have hh9 : lo ≤ w9.heap.size := Nat.le_trans hlw hb9.size
 clear ho hb9 MN zb zg fg MR4
 have zg := MG.out.box (.tail _ (.head _)); have fg := MG.out.free (.tail _ (.head _))
 have MZ : Aside0 (Mem w (w9.setCell ⟨g, 0, none⟩ (.slice A9 ln.length y9)) [Hold.val (Kd.slice 73 kFuncI) lo w9.heap.size ln [.slice A9 ln.length y9], Hold.box g #[.slice A9 ln.length y9, .slice XC x.consts.length YC] 37, Hold.val (Kd.slice 100 kConst) clo g x.consts [.slice XC x.consts.length YC], Hold.box (w.heap.size + 1) #[.slice none 0 0, .slice none 0 0] 37, Hold.box w.heap.size #[.slice (some fa) x.funcs.length c0, .slice A1 x.consts.length c1] 37]) := ⟨Mem.set (A := [_]) MG.out 0 (.slice A9 ln.length y9) rfl⟩
 clear MG
 go_wp2
 go_roundw
 (case measure => simp [intOf]; omega)
 (case rel => first | exact ⟨q + 1, w9.heap.size, A9, y9, ln, by go_num, by omega, hh9, HLN, MZ⟩ | ((repeat apply Exists.intro); exact ⟨⟨q + 1, w9.heap.size, A9, y9, ln, by go_num, by omega, hh9, HLN, MZ⟩, rfl⟩))
end Go.Proofs.Ytcbaokflimdjnaa.Law
end
section
namespace Go.Proofs.Ytcbaokflimdjnaa.Law
open Go.RowKit Go.Proofs.YtcbaokflimdjnaaW.PrintWords Go.Proofs.YtcbaokflimdjnaaW.PrintLast Go.Proofs.Ytcbaokflimdjnaa.Steps Go.Proofs.YtcbaokflimdjnaaW.PrintMore Go.Proofs.Ytcbaokflimdjnaa.Num Go.Proofs.Ytcbaokflimdjnaa
def RSPost (w : World) (r : Image × Bool) (e : Ending) (w' : World) : Prop := ∃ ds, e = .returned (.tuple #[.agg ⟨ds⟩, .bool r.2]) ∧ kImageI.M w' w.heap.size (fun _ => True) r.1 ds ∧ Below w.heap.size w w'
theorem Rel.at_ {α : Type} {D : α → Prop} {p : Nat → Option (α × Nat)} {a a2 : Nat} {bad : Bool} {v : α} {a' : Nat} {bad' : Bool} (h : Rel D p a bad v a' bad') (e : bad = true ∨ a = a2) : Rel D p a2 bad v a' bad' := by
 rcases e with rfl | rfl
 ·have := h.bad
  unfold Rel
  rw [if_pos rfl]
  exact this
 ·exact h
theorem three (s : ByteArray) (ok : Bool) : (stT s 0 (!ok) 3).2.2 = !(ok && decide (3 ≤ s.size)) ∧ ((stT s 0 (!ok) 3).2.2 = true ∨ (stT s 0 (!ok) 3).2.1 = 3) := by
 unfold stT
 cases ok
 ·exact ⟨rfl, .inl rfl⟩
 ·rw [if_neg (show ¬ (!true) = true by decide)]
  by_cases h : 3 ≤ s.size
  ·rw [if_neg (show ¬ ((3 : Nat) : Int) > (s.size : Int) - ((0 : Nat) : Int) by omega), decide_eq_true h]
   exact ⟨rfl, .inr rfl⟩
  ·rw [if_pos (show ((3 : Nat) : Int) > (s.size : Int) - ((0 : Nat) : Int) by omega), decide_eq_false h]
   exact ⟨rfl, .inl rfl⟩
def rsS.T9 : Bool × List (List Nat × List Nat) := (true, [([], []), ([0], [0]), ([], []), ([2], [2]), ([3], [3]), ([1, 4, 3], [1, 4]), ([0, 1, 2, 3, 4, 5], []), ([6, 5, 5, 0, 1, 2, 3, 4, 5], [5, 6])])
def rsS.B9 : List Nat := [0, 1, 0, 4, 12, 31, 63, 127]
theorem rsS.tab9 : rtab .any (opsOf Try.f47 9) = rsS.T9 := by kernel_rfl
theorem rsS.bits9 : waitsOk rsS.T9.2 rsS.B9 = true := by kernel_rfl
def rsS.T14 : Bool × List (List Nat × List Nat) := (true, [([], []), ([0], [0]), ([], []), ([2], [2]), ([3], [3]), ([1, 4, 3], [1, 4]), ([0, 1, 2, 3, 4, 5], []), ([6, 5, 5, 0, 1, 2, 3, 4, 5], [5, 6])])
def rsS.B14 : List Nat := [0, 1, 0, 4, 12, 31, 63, 127]
theorem rsS.tab14 : rtab .any (opsOf Try.f47 14) = rsS.T14 := by kernel_rfl
theorem rsS.bits14 : waitsOk rsS.T14.2 rsS.B14 = true := by kernel_rfl
set_option maxHeartbeats 16000000 in
set_option maxRecDepth 100000 in
theorem cReadS (F : Image → ByteArray × Bool) (hF : TextOf F) (t s : ByteArray) (ok : Bool) (hs : s.size ≤ 12000) (hU : ∀ w : World, Calls Try.prog 81 #[.string t] w fun e w' => e = .returned (.tuple #[.string s, .bool ok]) ∧ Below w.heap.size w w') (w : World) :
  Calls Try.prog 47 #[.string t] w fun e w' => RSPost w (riR F t s ok) e w' := by
 have hu0 := Try.underlying37; have hu1 := Try.underlying112; have hu2 := Try.underlying73; have hu3 := Try.underlying100; have hu4 := Try.underlying35; have hu5 := Try.underlying34; have hu6 := Try.underlying3; have hu7 := Try.underlying98; have hu8 := Try.underlying9
 have HU := Aside0.mk hU; clear hU
 have M0 := Aside0.mk ((Mem.start w).allocAt rfl #[.slice none 0 0, .slice none 0 0] 37)
 go_enter Try.func47, Try.ntmps47
 go_wp2_with fail
 refine (HU.out _).mono ?_
 rintro e w1 ⟨rfl, hb⟩
 have M1 := Aside0.mk (M0.out.step hb); clear hb M0 HU
 obtain ⟨nb, hnb⟩ : ∃ nb, nb = !ok := ⟨_, rfl⟩
 have q0 : (!ok) = nb := hnb.symm
 have H3 := three s ok
 rw [q0] at H3
 have HT3 := Aside0.mk (cTakeS s 0 nb 3 (by omega) hs (Nat.zero_le _)); have ha0 := stT_in s (Nat.zero_le s.size) nb 3
 generalize stT s 0 nb 3 = r3 at H3 HT3 ha0
 obtain ⟨t3, a0, b0⟩ := r3
 simp only at H3 HT3 ha0
 have HB0 := Aside0.mk H3.1; have HA0 := Aside0.mk H3.2
 clear H3 hnb
 obtain ⟨gr, hgr⟩ : ∃ gr, gr = w1.heap.size := ⟨_, rfl⟩
 obtain ⟨g7, hg7⟩ : ∃ g7, g7 = (w1.alloc (.cells #[.string s, .int .i64 ((0 : Nat) : Int), .bool nb] 112)).heap.size := ⟨_, rfl⟩
 have M2 : Aside0 (Mem w ((w1.alloc (.cells #[.string s, .int .i64 ((0 : Nat) : Int), .bool nb] 112)).alloc (.cells #[.slice none 0 0, .slice none 0 0] 37)) [Hold.box gr #[.string s, .int .i64 ((0 : Nat) : Int), .bool nb] 112, Hold.box g7 #[.slice none 0 0, .slice none 0 0] 37, Hold.box w.heap.size #[.slice none 0 0, .slice none 0 0] 37]) := ⟨((M1.out.allocAt hgr _ _).allocAt hg7 _ _).swap2⟩
 have HG := Aside0.mk (show w.heap.size + 1 ≤ gr ∧ gr + 1 ≤ g7 from ⟨by rw [hgr]; exact (M1.out.fits _ (.head _)).2, by rw [hg7, hgr]; simp⟩)
 clear M1
 go_upto_region 4 with fail
 have hg7' : w1.heap.size + 1 = g7 := by rw [hg7]; simp
 rw [hg7', ← hgr]
 generalize hW2 : (w1.alloc (.cells #[.string s, .int .i64 ((0 : Nat) : Int), .bool nb] 112)).alloc (.cells #[.slice none 0 0, .slice none 0 0] 37) = W2 at M2
 have hW2' : (w1.alloc (.cells #[.string s, .int .i64 0, .bool nb] 112)).alloc (.cells #[.slice none 0 0, .slice none 0 0] 37) = W2 := hW2
 try rw [hW2']
 clear hW2 hW2' hg7' hg7 hgr q0
 go_wp2_with fail
 refine (HT3.out w _ _ gr M2.out).mono ?_
 rintro e w3 ⟨rfl, h⟩
 have M3 : Aside0 (Mem w w3 [Hold.box gr #[.string s, .int .i64 (a0 : Int), .bool b0] 112, Hold.box g7 #[.slice none 0 0, .slice none 0 0] 37, Hold.box w.heap.size #[.slice none 0 0, .slice none 0 0] 37]) := ⟨h⟩
 clear h M2 HT3
 go_upto_region 5 with fail
 have HV := Aside0.mk (cVarAtS s a0 b0 hs ha0); have hr := rel_var s a0 b0; have hi := stV_in s ha0 b0
 generalize stV s a0 b0 = r at HV hr hi
 obtain ⟨n0, a1, b1⟩ := r
 simp only at HV hr hi
 have HR1 := Aside0.mk (hr.at_ HA0.out); clear hr
 have hnn := hi.1; have ha1 := hi.2; clear hi
 go_wp2_with fail
 refine (HV.out w _ _ gr M3.out).mono ?_
 rintro e w10 ⟨rfl, h⟩
 have M7_0 : Aside0 (Mem w w10 [Hold.box gr #[.string s, .int .i64 (a1 : Int), .bool b1] 112, Hold.box g7 #[.slice none 0 0, .slice none 0 0] 37, Hold.box w.heap.size #[.slice none 0 0, .slice none 0 0] 37]) := ⟨h⟩
 clear h HV M3
 have HF0 := Aside0.mk (show (gr + 1 ≤ w10.heap.size ∧ g7 + 1 ≤ w10.heap.size ∧ w.heap.size + 1 ≤ w10.heap.size) ∧ True from ⟨⟨(M7_0.out.fits _ (.head _)).2, (M7_0.out.fits _ (.tail _ (.head _))).2, (M7_0.out.fits _ (.tail _ (.tail _ (.head _)))).2⟩, trivial⟩)
 have M8 : Aside0 (Mem w w10 [Hold.box gr #[.string s, .int .i64 (a1 : Int), .bool b1] 112, Hold.val (Kd.slice 100 kConst) w10.heap.size w10.heap.size [] [.slice none 0 0], Hold.box g7 #[.slice none 0 0, .slice none 0 0] 37, Hold.box w.heap.size #[.slice none 0 0, .slice none 0 0] 37]) := ⟨(M7_0.out.push (d := Kd.slice 100 kConst) (x := []) (cs := [.slice none 0 0]) (Below.refl _ _) ⟨_, rfl, Kd.R_nil kConst 100 _ _ _⟩).swap2⟩
 obtain ⟨lo0, hlo⟩ : ∃ lo : Nat, lo = w10.heap.size := ⟨_, rfl⟩
 rw [← hlo] at M8 HF0
 clear hlo M7_0
 go_upto_region 7 with fail
 go_loopw [9] (fun v wx => ∃ (k aL0 hi0 : Nat) (bL0 : Bool) (l0 : List Const) (X0 : Option Addr) (Y0 : Nat), v = .int .i64 k ∧ (k : Int) ≤ n0 ∧ k ≤ 1000 ∧ aL0 ≤ s.size ∧ lo0 ≤ hi0 ∧ Aside0 (∀ z ∈ l0, 0 ≤ z.num ∧ z.num < 18446744073709551616) ∧ Aside0 (RInv No (pconst s) a1 b1 k l0 aL0 bL0) ∧ Aside0 (Mem w wx [Hold.box gr #[.string s, .int .i64 (aL0 : Int), .bool bL0] 112, Hold.val (Kd.slice 100 kConst) lo0 hi0 l0 [.slice X0 l0.length Y0], Hold.box g7 #[.slice none 0 0, .slice X0 l0.length Y0] 37, Hold.box w.heap.size #[.slice none 0 0, .slice none 0 0] 37])) (fun v _ => 1001 - (intOf v).toNat)
 case atStart => exact ⟨0, a1, lo0, b1, [], none, 0, rfl, by omega, by omega, ha1, Nat.le_refl _, ⟨fun z hz => absurd hz List.not_mem_nil⟩, ⟨RInv.start _ _ _ _⟩, M8⟩
 case round =>
 clear M8
 obtain ⟨k, aL0, hi0, bL0, l0, X0, Y0, rfl, hkn, hk1000, haL0, hhi0, HNM, HJ, M0z⟩ := hrel
 have hll0 := HJ.out.1
 go_upto_region 7 with fail
 go_cut [41] (fun u wx => ∃ (c : Bool) (W : World), u = .bool c ∧ Aside0 (c = true → ((k : Int) < n0 ∧ k < 1000 ∧ bL0 = false)) ∧ Aside0 (c = false → (bL0 = true ∨ (k : Int) = n0 ∨ k = 1000)) ∧ Aside0 (W = wx) ∧ Aside0 (Mem w W [Hold.box gr #[.string s, .int .i64 (aL0 : Int), .bool bL0] 112, Hold.val (Kd.slice 100 kConst) lo0 hi0 l0 [.slice X0 l0.length Y0], Hold.box g7 #[.slice none 0 0, .slice X0 l0.length Y0] 37, Hold.box w.heap.size #[.slice none 0 0, .slice none 0 0] 37]))
 case first =>
  have z0 := M0z.out.box (.head _)
  by_cases c1 : (k : Int) < n0
  ·by_cases c2 : (k : Int) < 1000
   ·cases bL0
    ·go_wp2_with fail
     go_meet
     exact ⟨true, wr, rfl, ⟨fun _ => ⟨c1, by omega, (by first | rfl | trivial)⟩⟩, ⟨fun h => (by cases h)⟩, ⟨rfl⟩, M0z⟩
    ·go_wp2_with fail
     go_meet
     exact ⟨false, wr, rfl, ⟨fun h => (by cases h)⟩, ⟨fun _ => .inl (by first | rfl | trivial)⟩, ⟨rfl⟩, M0z⟩
   ·go_wp2_with fail
    go_meet
    exact ⟨false, wr, rfl, ⟨fun h => (by cases h)⟩, ⟨fun _ => .inr (.inr (by omega))⟩, ⟨rfl⟩, M0z⟩
  ·go_wp2_with fail
   go_meet
   exact ⟨false, wr, rfl, ⟨fun h => (by cases h)⟩, ⟨fun _ => .inr (.inl (by omega))⟩, ⟨rfl⟩, M0z⟩
 case rest =>
 clear M0z
 obtain ⟨c, Wc, rfl, HC1, HC0, HW, M0z⟩ := hcut
 have hw9 := HW.out; subst hw9; clear HW
 rcases Bool.eq_false_or_eq_true c with hc | hc
 ·obtain ⟨hkn2, hk2, hbj⟩ := HC1.out hc
  subst hc
  clear HC1 HC0
  go_upto_region 9 with fail
  refine sz 8 (fun W => W.cell? ⟨g7, 1, none⟩ = some (.slice X0 l0.length Y0) ∧ W.cell? ⟨g7, 1, none⟩ = some (.slice X0 l0.length Y0)) [5, 7] rsS.tab9 rsS.bits9 ⟨(M0z.out.drew.box (.tail _ (.tail _ (.head _))) 1).trans rfl, (M0z.out.drew.box (.tail _ (.tail _ (.head _))) 1).trans rfl⟩ (fun HT_ HW_ hHeld => ?_)
  have MD := Aside0.mk M0z.out.drew
  clear M0z
  generalize hwd : World.drew _ = wd at MD hHeld ⊢
  clear hwd
  refine pz 0 44 ?_; refine pz 2 46 ?_; refine tz 1 45 ?_
  refine ez 3 (some 47) (fun K hK => ?_)
  refine gz Try.func84 #[.pointer (some ⟨gr, 0, none⟩)] ?_
  refine (cConstS s aL0 bL0 hs haL0 w _ _ gr MD.out).mono ?_
  rintro e w5 ⟨c, a5, b5, rfl, h, ha5, hnum, hX⟩
  have M10 : Aside0 (Mem w w5 [Hold.box gr #[.string s, .int .i64 (a5 : Int), .bool b5] 112, Hold.val (Kd.slice 100 kConst) lo0 hi0 l0 [.slice X0 l0.length Y0], Hold.box g7 #[.slice none 0 0, .slice X0 l0.length Y0] 37, Hold.box w.heap.size #[.slice none 0 0, .slice none 0 0] 37]) := ⟨h⟩
  have HX := Aside0.mk hX
  clear h hX
  refine ⟨_, rfl, ?_⟩
  refine hK.out _ _ ⟨(M10.out.box (.tail _ (.tail _ (.head _))) 1).trans rfl, (M10.out.box (.tail _ (.tail _ (.head _))) 1).trans rfl⟩ (fun hHeld => ?_); clear hK K; refine kz (some 47) ?_
  refine ez 4 (some 48) (fun K hK => ?_)
  refine value_ (w1 := ?_) (v := ?_) (by rfl) rfl ?_ ?_
  rotate_left 2
  ·go_simp
   constructor
   ·rfl
   ·rfl
  refine hK.out _ _ ⟨((M10.out.step (below_alloc (Below.refl _ _) _)).box (.tail _ (.tail _ (.head _))) 1).trans rfl, ((M10.out.step (below_alloc (Below.refl _ _) _)).box (.tail _ (.tail _ (.head _))) 1).trans rfl⟩ (fun hHeld => ?_); clear hK K; refine kz (some 48) ?_
  refine lz 5 (some 49) (fun K hK => ?_)
  have hlw : lo0 ≤ w5.heap.size := Nat.le_trans hhi0 (M10.out.fits _ (.tail _ (.head _))).2
  refine Kd.R_append_step kConst (w0 := w5) lo0 (by rfl) (.tmp 45) (.tmp 48) 35 100 (.agg #[.int .i64 0, .int .u64 0, .string (⟨#[]⟩ : ByteArray)]) 32 rfl Try.underlying35 (by kernel_rfl) rfl (by decide) (by decide) (.slice X0 l0.length Y0) l0 c [.int .i64 c.kind, .int .u64 c.num, .string c.text] (fun k => lo0 ≤ k) (fun _ => False) ?aV ?aX (kConst_mkM _ _ _ _) (fun _ h => h.elim) (fun k hk => Nat.le_trans hlw hk) (Kd.R_mono (M10.out.row (.tail _ (.head _))) (fun k hk => hk.1)) (Below.refl _ _) hlw (by omega) ?_
  (case aV => first | rfl | (go_simp; done) | (go_simp; rfl))
  (case aX => first | rfl | (go_simp; done) | (go_simp; rfl))
  intro v9 w9 ho hb9 hg9 hat9; clear hg9 hat9
  obtain ⟨A9, y9, hv9⟩ := Kd.R_slice ho; subst hv9
  obtain ⟨ln, hln⟩ : ∃ ln, ln = l0 ++ [c] := ⟨_, rfl⟩
  have HLN := Aside0.mk hln
  rw [← hln] at ho ⊢
  clear hln
  have MG : Aside0 (Mem w w9 [Hold.box gr #[.string s, .int .i64 (a5 : Int), .bool b5] 112, Hold.val (Kd.slice 100 kConst) lo0 w9.heap.size ln [.slice A9 ln.length y9], Hold.box g7 #[.slice none 0 0, .slice X0 l0.length Y0] 37, Hold.box w.heap.size #[.slice none 0 0, .slice none 0 0] 37]) := ⟨Mem.growAt (A := [_]) M10.out (fun x hx => ?mgo) hb9 ho⟩
  (case mgo =>
   have h1 := HG.out; have h2 := HF0.out
   simp only [List.mem_append, List.mem_cons, List.not_mem_nil, or_false] at hx
   rcases hx with rfl | rfl | rfl
   ·simp only [Hold.box]; omega
   ·simp only [Hold.box]; omega
   ·simp only [Hold.box]; omega)
  have hh9 : lo0 ≤ w9.heap.size := Nat.le_trans hlw hb9.size
  clear ho hb9 M10 MD
  refine hK.out _ _ ?_; clear hK K; refine kz (some 49) ?_
  refine pz 6 50 ?_
  refine lz 7 none (fun K hK => ?_)
  have b0_ := MG.out.box (.tail _ (.tail _ (.head _))); have b1_ := MG.out.free (.tail _ (.tail _ (.head _)))
  refine skip_ (w1 := ?_) (by rfl) rfl ?_ ?_
  rotate_left
  ·go_simp
   rfl
  clear b0_ b1_
  refine hK.out _ _ ?_; clear hK K
  refine dz ?_
  clear hHeld HT_ HW_
  have MZ : Aside0 (Mem w (w9.setCell ⟨g7, 1, none⟩ (.slice A9 ln.length y9)) [Hold.box gr #[.string s, .int .i64 (a5 : Int), .bool b5] 112, Hold.val (Kd.slice 100 kConst) lo0 w9.heap.size ln [.slice A9 ln.length y9], Hold.box g7 #[.slice none 0 0, .slice A9 ln.length y9] 37, Hold.box w.heap.size #[.slice none 0 0, .slice none 0 0] 37]) := ⟨Mem.set (A := [_, _]) MG.out 1 (.slice A9 ln.length y9) rfl⟩
  clear MG
  have HJ2 := Aside0.mk (show RInv No (pconst s) a1 b1 (k + 1) ln a5 b5 from by rw [HLN.out]; exact HJ.out.step HX.out)
  have HNM2 := Aside0.mk (show ∀ z ∈ ln, 0 ≤ z.num ∧ z.num < 18446744073709551616 from by
   rw [HLN.out]
   intro z hz
   rcases List.mem_append.1 hz with hz | hz
   ·exact HNM.out z hz
   ·rw [List.mem_singleton.1 hz]; exact hnum)
  go_wp2
  go_roundw
  (case measure => simp [intOf]; omega)
  (case rel => first | exact ⟨k + 1, a5, w9.heap.size, b5, ln, A9, y9, by go_num, by omega, by omega, ha5, hh9, HNM2, HJ2, MZ⟩ | ((repeat apply Exists.intro); exact ⟨⟨k + 1, a5, w9.heap.size, b5, ln, A9, y9, by go_num, by omega, by omega, ha5, hh9, HNM2, HJ2, MZ⟩, rfl⟩))
 have HL0 : Aside0 (Rel (fun l0 : List Const => (l0.length : Int) > 40) (plist (pconst s) 40 s) 3 b0 l0 aL0 bL0) := ⟨by
  have hc0 := HC0.out hc
  cases hb : bL0 with
  | true => exact RInv.bads (E := No) _ HR1.out hkn (hb ▸ HJ.out)
  | false =>
   have hc2 : (k : Int) = n0 ∨ k = 1000 := by
    rcases hc0 with h | h
    ·rw [hb] at h
     cases h
    ·exact h
   by_cases hm : n0 > 40
   ·have hc1 : (k : Int) > 40 := by omega
    exact rel_many _ HR1.out hm (fun e => by have h := HJ.out; rw [e] at h; rw [← hb]; exact h.stays) (.inr (by rw [hll0]; exact hc1))
   ·have hkk : k = n0.toNat := by omega
    subst hkk
    exact Rel.weak (RInv.all HR1.out hm (hb ▸ HJ.out)) (fun l0 h => by obtain ⟨x, _, h⟩ := h; exact h.elim)⟩
 subst hc
 clear HC1 HC0 HJ hkn hk1000 hll0
 go_upto_region 10 with fail
 have HV := Aside0.mk (cVarAtS s aL0 bL0 hs haL0); have hr := rel_var s aL0 bL0; have hi := stV_in s haL0 bL0
 generalize stV s aL0 bL0 = r at HV hr hi
 obtain ⟨n1, a2, b2⟩ := r
 simp only at HV hr hi
 have HR2 := Aside0.mk hr; clear hr
 have hnn := hi.1; have ha2 := hi.2; clear hi
 go_wp2_with fail
 refine (HV.out w _ _ gr M0z.out).mono ?_
 rintro e w20 ⟨rfl, h⟩
 have M7_1 : Aside0 (Mem w w20 [Hold.box gr #[.string s, .int .i64 (a2 : Int), .bool b2] 112, Hold.val (Kd.slice 100 kConst) lo0 hi0 l0 [.slice X0 l0.length Y0], Hold.box g7 #[.slice none 0 0, .slice X0 l0.length Y0] 37, Hold.box w.heap.size #[.slice none 0 0, .slice none 0 0] 37]) := ⟨h⟩
 clear h HV M0z
 have HF1 := Aside0.mk (show (gr + 1 ≤ w20.heap.size ∧ g7 + 1 ≤ w20.heap.size ∧ w.heap.size + 1 ≤ w20.heap.size) ∧ hi0 ≤ w20.heap.size from ⟨⟨(M7_1.out.fits _ (.head _)).2, (M7_1.out.fits _ (.tail _ (.tail _ (.head _)))).2, (M7_1.out.fits _ (.tail _ (.tail _ (.tail _ (.head _))))).2⟩, (M7_1.out.fits _ (.tail _ (.head _))).2⟩)
 have M8 : Aside0 (Mem w w20 [Hold.box gr #[.string s, .int .i64 (a2 : Int), .bool b2] 112, Hold.val (sliceS 73 kFuncI) w20.heap.size w20.heap.size [] [.slice none 0 0], Hold.val (Kd.slice 100 kConst) lo0 hi0 l0 [.slice X0 l0.length Y0], Hold.box g7 #[.slice none 0 0, .slice X0 l0.length Y0] 37, Hold.box w.heap.size #[.slice none 0 0, .slice none 0 0] 37]) := ⟨(M7_1.out.push (d := sliceS 73 kFuncI) (x := []) (cs := [.slice none 0 0]) (Below.refl _ _) ⟨_, rfl, Kd.S_nil kFuncI 73 _ _ _⟩).swap2⟩
 obtain ⟨lo1, hlo⟩ : ∃ lo : Nat, lo = w20.heap.size := ⟨_, rfl⟩
 rw [← hlo] at M8 HF1
 clear hlo M7_1
 go_upto_region 12 with fail
 go_loopw [10] (fun v wx => ∃ (k aL1 hi1 : Nat) (bL1 : Bool) (l1 : List Func) (X1 : Option Addr) (Y1 : Nat), v = .int .i64 k ∧ (k : Int) ≤ n1 ∧ k ≤ 1000 ∧ aL1 ≤ s.size ∧ lo1 ≤ hi1 ∧ Aside0 (RInv fdoom (pfunc s) a2 b2 k l1 aL1 bL1) ∧ Aside0 (Mem w wx [Hold.box gr #[.string s, .int .i64 (aL1 : Int), .bool bL1] 112, Hold.val (sliceS 73 kFuncI) lo1 hi1 l1 [.slice X1 l1.length Y1], Hold.val (Kd.slice 100 kConst) lo0 hi0 l0 [.slice X0 l0.length Y0], Hold.box g7 #[.slice X1 l1.length Y1, .slice X0 l0.length Y0] 37, Hold.box w.heap.size #[.slice none 0 0, .slice none 0 0] 37])) (fun v _ => 1001 - (intOf v).toNat)
 case atStart => exact ⟨0, a2, lo1, b2, [], none, 0, rfl, by omega, by omega, ha2, Nat.le_refl _, ⟨RInv.start _ _ _ _⟩, M8⟩
 case round =>
 clear M8
 obtain ⟨k, aL1, hi1, bL1, l1, X1, Y1, rfl, hkn, hk1000, haL1, hhi1, HJ, M1z⟩ := hrel
 have hll1 := HJ.out.1
 go_upto_region 12 with fail
 go_cut [66] (fun u wx => ∃ (c : Bool) (W : World), u = .bool c ∧ Aside0 (c = true → ((k : Int) < n1 ∧ k < 1000 ∧ bL1 = false)) ∧ Aside0 (c = false → (bL1 = true ∨ (k : Int) = n1 ∨ k = 1000)) ∧ Aside0 (W = wx) ∧ Aside0 (Mem w W [Hold.box gr #[.string s, .int .i64 (aL1 : Int), .bool bL1] 112, Hold.val (sliceS 73 kFuncI) lo1 hi1 l1 [.slice X1 l1.length Y1], Hold.val (Kd.slice 100 kConst) lo0 hi0 l0 [.slice X0 l0.length Y0], Hold.box g7 #[.slice X1 l1.length Y1, .slice X0 l0.length Y0] 37, Hold.box w.heap.size #[.slice none 0 0, .slice none 0 0] 37]))
 case first =>
  have z0 := M1z.out.box (.head _)
  by_cases c1 : (k : Int) < n1
  ·by_cases c2 : (k : Int) < 1000
   ·cases bL1
    ·go_wp2_with fail
     go_meet
     exact ⟨true, wr, rfl, ⟨fun _ => ⟨c1, by omega, (by first | rfl | trivial)⟩⟩, ⟨fun h => (by cases h)⟩, ⟨rfl⟩, M1z⟩
    ·go_wp2_with fail
     go_meet
     exact ⟨false, wr, rfl, ⟨fun h => (by cases h)⟩, ⟨fun _ => .inl (by first | rfl | trivial)⟩, ⟨rfl⟩, M1z⟩
   ·go_wp2_with fail
    go_meet
    exact ⟨false, wr, rfl, ⟨fun h => (by cases h)⟩, ⟨fun _ => .inr (.inr (by omega))⟩, ⟨rfl⟩, M1z⟩
  ·go_wp2_with fail
   go_meet
   exact ⟨false, wr, rfl, ⟨fun h => (by cases h)⟩, ⟨fun _ => .inr (.inl (by omega))⟩, ⟨rfl⟩, M1z⟩
 case rest =>
 clear M1z
 obtain ⟨c, Wc, rfl, HC1, HC0, HW, M1z⟩ := hcut
 have hw9 := HW.out; subst hw9; clear HW
 rcases Bool.eq_false_or_eq_true c with hc | hc
 ·obtain ⟨hkn2, hk2, hbj⟩ := HC1.out hc
  subst hc
  clear HC1 HC0
  go_upto_region 14 with fail
  refine sz 8 (fun W => W.cell? ⟨g7, 0, none⟩ = some (.slice X1 l1.length Y1) ∧ W.cell? ⟨g7, 0, none⟩ = some (.slice X1 l1.length Y1)) [5, 7] rsS.tab14 rsS.bits14 ⟨(M1z.out.drew.box (.tail _ (.tail _ (.tail _ (.head _)))) 0).trans rfl, (M1z.out.drew.box (.tail _ (.tail _ (.tail _ (.head _)))) 0).trans rfl⟩ (fun HT_ HW_ hHeld => ?_)
  have MD := Aside0.mk M1z.out.drew
  clear M1z
  generalize hwd : World.drew _ = wd at MD hHeld ⊢
  clear hwd
  refine pz 0 69 ?_; refine pz 2 71 ?_; refine tz 1 70 ?_
  refine ez 3 (some 72) (fun K hK => ?_)
  refine gz Try.func85 #[.pointer (some ⟨gr, 0, none⟩)] ?_
  have HLW9 := Aside0.mk (Nat.le_trans hhi1 (MD.out.fits _ (.tail _ (.head _))).2)
  have hwr : hi1 ≤ wd.heap.size := (MD.out.fits _ (.tail _ (.head _))).2
  refine (cFuncS s aL1 bL1 hs haL1 w _ _ gr MD.out).mono ?_
  rintro e w5 ⟨c, a5, b5, hi5, ds, rfl, h, ha5, hX⟩
  obtain ⟨u2, u3, u4, rfl, hu2_, hu3_, hu4_⟩ := kFuncI_openM (h.val (.head _))
  obtain ⟨P2, Q2, rfl⟩ := Kd.R_slice hu2_; obtain ⟨P3, Q3, rfl⟩ := Kd.R_slice hu3_; obtain ⟨P4, Q4, rfl⟩ := Kd.R_slice hu4_
  clear hu2_ hu3_ hu4_
  have M10 : Aside0 (Mem w w5 [Hold.val kFuncI wd.heap.size hi5 c [.int .i64 c.params, .int .i64 c.regs, .slice P2 c.caps.length Q2, .slice P3 c.code.length Q3, .slice P4 c.handlers.length Q4], Hold.box gr #[.string s, .int .i64 (a5 : Int), .bool b5] 112, Hold.val (sliceS 73 kFuncI) lo1 hi1 l1 [.slice X1 l1.length Y1], Hold.val (Kd.slice 100 kConst) lo0 hi0 l0 [.slice X0 l0.length Y0], Hold.box g7 #[.slice X1 l1.length Y1, .slice X0 l0.length Y0] 37, Hold.box w.heap.size #[.slice none 0 0, .slice none 0 0] 37]) := ⟨h⟩
  have HX := Aside0.mk hX
  clear h hX
  refine ⟨_, rfl, ?_⟩
  refine hK.out _ _ ⟨(M10.out.box (.tail _ (.tail _ (.tail _ (.tail _ (.head _))))) 0).trans rfl, (M10.out.box (.tail _ (.tail _ (.tail _ (.tail _ (.head _))))) 0).trans rfl⟩ (fun hHeld => ?_); clear hK K; refine kz (some 72) ?_
  refine ez 4 (some 73) (fun K hK => ?_)
  refine value_ (w1 := ?_) (v := ?_) (by rfl) rfl ?_ ?_
  rotate_left 2
  ·go_simp
   constructor
   ·rfl
   ·rfl
  refine hK.out _ _ ⟨((M10.out.step (below_alloc (Below.refl _ _) _)).box (.tail _ (.tail _ (.tail _ (.tail _ (.head _))))) 0).trans rfl, ((M10.out.step (below_alloc (Below.refl _ _) _)).box (.tail _ (.tail _ (.tail _ (.tail _ (.head _))))) 0).trans rfl⟩ (fun hHeld => ?_); clear hK K; refine kz (some 73) ?_
  refine lz 5 (some 74) (fun K hK => ?_)
  have hlw : lo1 ≤ w5.heap.size := Nat.le_trans hhi1 (M10.out.fits _ (.tail _ (.tail _ (.head _)))).2
  have HMV := Aside0.mk (M10.out.val (.head _))
  refine Kd.S_append_step kFuncI (w0 := w5) lo1 (by rfl) (.tmp 70) (.tmp 73) 34 73 (.agg #[.int .i64 0, .int .i64 0, .slice none 0 0, .slice none 0 0, .slice none 0 0]) 88 rfl Try.underlying34 (by kernel_rfl) rfl (by decide) (by decide) (.slice X1 l1.length Y1) l1 c [.int .i64 c.params, .int .i64 c.regs, .slice P2 c.caps.length Q2, .slice P3 c.code.length Q3, .slice P4 c.handlers.length Q4] (fun k => lo1 ≤ k) (fun k => wd.heap.size ≤ k ∧ k < hi5) ?aV ?aX ?aP ?aK (fun k hk => Nat.le_trans hlw hk) ?aO (Below.refl _ _) hlw (by omega) ?_
  (case aP => exact kFuncI.M_lower HLW9.out HMV.out)
  (case aK => exact fun k hk => ⟨Nat.le_trans HLW9.out hk.1, fun e => by have h1 := (Kd.S_R (M10.out.rowS (.tail _ (.tail _ (.head _))))).1 k e.symm; have h2 : k < hi1 := h1.2; have h3 : wd.heap.size ≤ k := hk.1; omega⟩)
  (case aO => exact Kd.S_mono (M10.out.rowS (.tail _ (.tail _ (.head _)))) (fun k hk => ⟨hk.1, fun h => by have h2 : k < hi1 := hk.2; have h3 : wd.heap.size ≤ k := h.1; omega⟩))
  (case aV => first | rfl | (go_simp; done) | (go_simp; rfl))
  (case aX => first | rfl | (go_simp; done) | (go_simp; rfl))
  intro v9 w9 ho hb9 hg9 hat9; clear hg9 hat9
  obtain ⟨A9, y9, hv9⟩ := Kd.R_slice (Kd.S_R ho); subst hv9
  obtain ⟨ln, hln⟩ : ∃ ln, ln = l1 ++ [c] := ⟨_, rfl⟩
  have HLN := Aside0.mk hln
  rw [← hln] at ho ⊢
  clear hln
  have MG : Aside0 (Mem w w9 [Hold.box gr #[.string s, .int .i64 (a5 : Int), .bool b5] 112, Hold.val (sliceS 73 kFuncI) lo1 w9.heap.size ln [.slice A9 ln.length y9], Hold.val (Kd.slice 100 kConst) lo0 hi0 l0 [.slice X0 l0.length Y0], Hold.box g7 #[.slice X1 l1.length Y1, .slice X0 l0.length Y0] 37, Hold.box w.heap.size #[.slice none 0 0, .slice none 0 0] 37]) := ⟨Mem.growS (A := [_]) (M10.out.drop) (fun x hx => ?mgo) hb9 ho⟩
  (case mgo =>
   have h1 := HG.out; have h2 := HF1.out
   simp only [List.mem_append, List.mem_cons, List.not_mem_nil, or_false] at hx
   rcases hx with rfl | rfl | rfl | rfl
   ·simp only [Hold.box]; omega
   ·simp only [Hold.val]; omega
   ·simp only [Hold.box]; omega
   ·simp only [Hold.box]; omega)
  have hh9 : lo1 ≤ w9.heap.size := Nat.le_trans hlw hb9.size
  clear ho hb9 M10 MD
  refine hK.out _ _ ?_; clear hK K; refine kz (some 74) ?_
  refine pz 6 75 ?_
  refine lz 7 none (fun K hK => ?_)
  have b0_ := MG.out.box (.tail _ (.tail _ (.tail _ (.head _)))); have b1_ := MG.out.free (.tail _ (.tail _ (.tail _ (.head _))))
  refine skip_ (w1 := ?_) (by rfl) rfl ?_ ?_
  rotate_left
  ·go_simp
   rfl
  clear b0_ b1_
  refine hK.out _ _ ?_; clear hK K
  refine dz ?_
  clear hHeld HT_ HW_
  have MZ : Aside0 (Mem w (w9.setCell ⟨g7, 0, none⟩ (.slice A9 ln.length y9)) [Hold.box gr #[.string s, .int .i64 (a5 : Int), .bool b5] 112, Hold.val (sliceS 73 kFuncI) lo1 w9.heap.size ln [.slice A9 ln.length y9], Hold.val (Kd.slice 100 kConst) lo0 hi0 l0 [.slice X0 l0.length Y0], Hold.box g7 #[.slice A9 ln.length y9, .slice X0 l0.length Y0] 37, Hold.box w.heap.size #[.slice none 0 0, .slice none 0 0] 37]) := ⟨Mem.set (A := [_, _, _]) MG.out 0 (.slice A9 ln.length y9) rfl⟩
  clear MG
  have HJ2 := Aside0.mk (show RInv fdoom (pfunc s) a2 b2 (k + 1) ln a5 b5 from by rw [HLN.out]; exact HJ.out.step HX.out)
  go_wp2
  go_roundw
  (case measure => simp [intOf]; omega)
  (case rel => first | exact ⟨k + 1, a5, w9.heap.size, b5, ln, A9, y9, by go_num, by omega, by omega, ha5, hh9, HJ2, MZ⟩ | ((repeat apply Exists.intro); exact ⟨⟨k + 1, a5, w9.heap.size, b5, ln, A9, y9, by go_num, by omega, by omega, ha5, hh9, HJ2, MZ⟩, rfl⟩))
 have HL1 : Aside0 (Rel (fun l1 : List Func => (l1.length : Int) > 16 ∨ ∃ f ∈ l1, fdoom f) (plist (pfunc s) 16 s) aL0 bL0 l1 aL1 bL1) := ⟨by
  have hc0 := HC0.out hc
  cases hb : bL1 with
  | true => exact RInv.bads (E := No) _ HR2.out hkn (hb ▸ HJ.out)
  | false =>
   have hc2 : (k : Int) = n1 ∨ k = 1000 := by
    rcases hc0 with h | h
    ·rw [hb] at h
     cases h
    ·exact h
   by_cases hm : n1 > 16
   ·have hc1 : (k : Int) > 16 := by omega
    exact rel_many _ HR2.out hm (fun e => by have h := HJ.out; rw [e] at h; rw [← hb]; exact h.stays) (.inr (by rw [hll1]; exact .inl hc1))
   ·have hkk : k = n1.toNat := by omega
    subst hkk
    exact Rel.weak (RInv.all HR2.out hm (hb ▸ HJ.out)) (fun l1 h => by exact .inr h)⟩
 subst hc
 clear HC1 HC0 HJ hkn hk1000 hll1
 obtain ⟨x, hx⟩ : ∃ x : Image, x = ⟨l1, l0⟩ := ⟨_, rfl⟩
 have HREL := Aside0.mk (show Rel idoom (pimg s) 3 b0 x aL1 bL1 from by
  rw [hx]
  exact Rel.seq HL0.out (Rel.seq HL1.out (rel_ret _ _ _ _) (fun h => .inr h)) (fun h => .inl h))
 have HEND := Aside0.mk (ri_end hF (t := t) (s := s) (ok := ok) b0 HB0.out HREL.out)
 have HXX := Aside0.mk hx; clear hx
 obtain ⟨AF, cF, hvF, hlF, hCF⟩ := Kd.R_reads (Kd.S_R (M1z.out.rowS (.tail _ (.head _))))
 obtain ⟨AC, cC, hvC, hlC, hCC⟩ := Kd.R_reads (M1z.out.row (.tail _ (.tail _ (.head _))))
 injection hvF with e1 e2 e3; subst e1; subst e3; clear e2
 injection hvC with e1 e2 e3; subst e1; subst e3; clear e2
 have HT := Aside0.mk (hF x).2.1
 obtain ⟨r, hr⟩ : ∃ r, r = F x := ⟨_, rfl⟩
 have HRA := Aside0.mk (show riA F t x = if r.2 = true ∧ r.1.toList = t.toList then (x, true) else (⟨[], []⟩, false) from by rw [hr]; rfl)
 have HIB := Aside0.mk (hF x).1
 rw [← hr] at HT HIB
 clear hr
 obtain ⟨t1, b1⟩ := r
 simp only at HT HRA HIB
 have z7 := M1z.out.box (.tail _ (.tail _ (.tail _ (.head _))))
 go_upto_region 15 with fail
 go_wp2_with fail
 have C := HT.out X1 Y1 X0 Y0 _ (by rw [HXX.out]; exact hlF) (by rw [HXX.out]; exact hCF) (by rw [HXX.out]; exact hlC) (by rw [HXX.out]; exact hCC) (by rw [HXX.out]; exact HNM.out)
 rw [show x.funcs = l1 from by rw [HXX.out], show x.consts = l0 from by rw [HXX.out]] at C
 refine C.mono ?_
 clear C hCF hCC hlF hlC HT
 rintro e w7 ⟨rfl, hb⟩
 have M20 := Aside0.mk (M1z.out.step hb)
 clear hb z7 M1z
 have z0 := M20.out.box (.head _)
 go_upto_region 16 with fail
 have hcase : bL1 = true ∨ bL1 = false ∧ b1 = false ∨ bL1 = false ∧ b1 = true ∧ ¬ t1.toList = t.toList ∨ bL1 = false ∧ b1 = true ∧ t1.toList = t.toList := by
  cases bL1 <;> cases b1 <;> simp
  exact (Classical.em _).symm
 rcases hcase with rfl | ⟨rfl, rfl⟩ | ⟨rfl, rfl, hne⟩ | ⟨rfl, rfl, heq⟩
 ·have HR := Aside0.mk (show riR F t s ok = (⟨[], []⟩, false) from by rw [HEND.out, if_pos rfl])
  have b0 := M20.out.box (.tail _ (.tail _ (.tail _ (.tail _ (.head _))))); have b1 := M20.out.free (.tail _ (.tail _ (.tail _ (.tail _ (.head _)))))
  have M8 := Aside0.mk (Mem.set (A := [_, _, _, _]) (Mem.set (A := [_, _, _, _]) M20.out 0 (.slice none 0 0) rfl) 1 (.slice none 0 0) rfl)
  clear M20
  go_wp2
  refine bodyPost_ret (results_ct rfl _ _ w.heap.size 37 #[.slice none 0 0, .slice none 0 0] (0, 0) _ rfl (M8.out.blk (.tail _ (.tail _ (.tail _ (.tail _ (.head _)))))) hu0 rfl (by kernel_rfl)) rfl ?_
  exact ⟨_, congrArg Ending.returned (by rw [HR.out]; rfl), by rw [HR.out]; exact kImageI_mkM _ _ _ ⟨[], []⟩ (Kd.R_nil _ _ _ _ _) (Kd.R_nil _ _ _ _ _), M8.out.below⟩
 ·have HR := Aside0.mk (show riR F t s ok = (⟨[], []⟩, false) from by rw [HEND.out, if_neg (by decide), HRA.out, if_neg (by rintro ⟨h, _⟩; cases h)])
  have b0 := M20.out.box (.tail _ (.tail _ (.tail _ (.tail _ (.head _))))); have b1 := M20.out.free (.tail _ (.tail _ (.tail _ (.tail _ (.head _)))))
  have M8 := Aside0.mk (Mem.set (A := [_, _, _, _]) (Mem.set (A := [_, _, _, _]) M20.out 0 (.slice none 0 0) rfl) 1 (.slice none 0 0) rfl)
  clear M20
  go_wp2
  refine bodyPost_ret (results_ct rfl _ _ w.heap.size 37 #[.slice none 0 0, .slice none 0 0] (0, 0) _ rfl (M8.out.blk (.tail _ (.tail _ (.tail _ (.tail _ (.head _)))))) hu0 rfl (by kernel_rfl)) rfl ?_
  exact ⟨_, congrArg Ending.returned (by rw [HR.out]; rfl), by rw [HR.out]; exact kImageI_mkM _ _ _ ⟨[], []⟩ (Kd.R_nil _ _ _ _ _) (Kd.R_nil _ _ _ _ _), M8.out.below⟩
 ·have HR := Aside0.mk (show riR F t s ok = (⟨[], []⟩, false) from by rw [HEND.out, if_neg (by decide), HRA.out, if_neg (by rintro ⟨_, h⟩; exact hne h)])
  have q1 : (t1.toList != t.toList) = true := by simpa using hne
  have q2 : (t1.toList == t.toList) = false := by simpa using hne
  have b0 := M20.out.box (.tail _ (.tail _ (.tail _ (.tail _ (.head _))))); have b1 := M20.out.free (.tail _ (.tail _ (.tail _ (.tail _ (.head _)))))
  have M8 := Aside0.mk (Mem.set (A := [_, _, _, _]) (Mem.set (A := [_, _, _, _]) M20.out 0 (.slice none 0 0) rfl) 1 (.slice none 0 0) rfl)
  clear M20
  go_wp2
  refine bodyPost_ret (results_ct rfl _ _ w.heap.size 37 #[.slice none 0 0, .slice none 0 0] (0, 0) _ rfl (M8.out.blk (.tail _ (.tail _ (.tail _ (.tail _ (.head _)))))) hu0 rfl (by kernel_rfl)) rfl ?_
  exact ⟨_, congrArg Ending.returned (by rw [HR.out]; rfl), by rw [HR.out]; exact kImageI_mkM _ _ _ ⟨[], []⟩ (Kd.R_nil _ _ _ _ _) (Kd.R_nil _ _ _ _ _), M8.out.below⟩
 ·have HR := Aside0.mk (show riR F t s ok = (x, true) from by rw [HEND.out, if_neg (by decide), HRA.out, if_pos ⟨rfl, heq⟩])
  have q1 : (t1.toList != t.toList) = false := by simp [heq]
  have q2 : (t1.toList == t.toList) = true := by simp [heq]
  clear heq
  have hi : imgB x = true := by
   cases h : imgB x with
   | true => rfl
   | false => exact absurd (HIB.out h) (by decide)
  have z7 := M20.out.box (.tail _ (.tail _ (.tail _ (.head _)))); have b0 := M20.out.box (.tail _ (.tail _ (.tail _ (.tail _ (.head _))))); have b1 := M20.out.free (.tail _ (.tail _ (.tail _ (.tail _ (.head _)))))
  obtain ⟨AF, cF, hvF, hlF, hCF⟩ := Kd.R_reads (Kd.S_R (M20.out.rowS (.tail _ (.head _))))
  obtain ⟨AC, cC, hvC, hlC, hCC⟩ := Kd.R_reads (M20.out.row (.tail _ (.tail _ (.head _))))
  injection hvF with e1 e2 e3; subst e1; subst e3; clear e2
  injection hvC with e1 e2 e3; subst e1; subst e3; clear e2
  go_upto_region 18 with fail
  go_wp2_with fail
  have C := cCopyS x X1 Y1 X0 Y0 _ hi (by rw [HXX.out]; exact hlF) (by rw [HXX.out]; exact hCF) (by rw [HXX.out]; exact hlC) (by rw [HXX.out]; exact hCC)
  rw [show x.funcs = l1 from by rw [HXX.out], show x.consts = l0 from by rw [HXX.out]] at C
  refine C.mono ?_
  clear C hCF hCC hlF hlC z7 b0 b1
  rintro e w8 ⟨ds, rfl, hm, hb⟩
  obtain ⟨v0, v1, rfl, hr0, hr1⟩ := kImageI_openM hm
  obtain ⟨P0, Q0, rfl⟩ := Kd.R_slice hr0; obtain ⟨P1, Q1, rfl⟩ := Kd.R_slice hr1
  have M21 := Aside0.mk (M20.out.push hb hm)
  clear hb hm hr0 hr1 M20
  have b0 := M21.out.box (.tail _ (.tail _ (.tail _ (.tail _ (.tail _ (.head _)))))); have b1 := M21.out.free (.tail _ (.tail _ (.tail _ (.tail _ (.tail _ (.head _))))))
  have M8 := Aside0.mk (Mem.set (A := [_, _, _, _, _]) (Mem.set (A := [_, _, _, _, _]) M21.out 0 (.slice P0 x.funcs.length Q0) rfl) 1 (.slice P1 x.consts.length Q1) rfl)
  clear M21
  go_wp2
  refine bodyPost_ret (results_ct rfl _ _ w.heap.size 37 #[.slice P0 x.funcs.length Q0, .slice P1 x.consts.length Q1] (0, 0) _ rfl (M8.out.blk (.tail _ (.tail _ (.tail _ (.tail _ (.tail _ (.head _))))))) hu0 rfl (by kernel_rfl)) rfl ?_
  exact ⟨_, congrArg Ending.returned (by rw [HR.out]; rfl), by rw [HR.out]; exact kImageI.M_mono (fun _ _ => trivial) (kImageI.M_lower (M8.out.fits _ (.head _)).1 (M8.out.val (.head _))), M8.out.below⟩
end Go.Proofs.Ytcbaokflimdjnaa.Law
end
section
namespace Go.Proofs.Ytcbaokflimdjnaa
open Go.RowKit Go.Proofs.YtcbaokflimdjnaaW.PrintWords Go.Proofs.YtcbaokflimdjnaaW.PrintMore Go.Proofs.Ytcbaokflimdjnaa.Law Go.Proofs.Ytcbaokflimdjnaa.Num
set_option maxHeartbeats 4000000 in
set_option maxRecDepth 100000 in
theorem eqIns (x y : Ins) (cs ds : List Value) (w : World) (hk : kIns.K w x cs) (hk2 : kIns.K w y ds) :
  Calls Try.prog 166 #[.agg ⟨cs⟩, .agg ⟨ds⟩] w fun e w' => e = .returned (.bool (decide (x = y))) ∧ Below w.heap.size w w' := by
 have ecs := kIns_open hk
 subst ecs
 have eds := kIns_open hk2
 subst eds
 clear hk hk2
 have hu := Try.underlying76
 by_cases h0 : x.op = y.op
 ·skip
  have b0 : (x.op == y.op) = true := beq_iff_eq.mpr h0
  have d0 : (x.op != y.op) = false := bne_eq_false_iff_eq.mpr h0
  by_cases h1 : x.a = y.a
  ·skip
   have b1 : (x.a == y.a) = true := beq_iff_eq.mpr h1
   have d1 : (x.a != y.a) = false := bne_eq_false_iff_eq.mpr h1
   by_cases h2 : x.b = y.b
   ·skip
    have b2 : (x.b == y.b) = true := beq_iff_eq.mpr h2
    have d2 : (x.b != y.b) = false := bne_eq_false_iff_eq.mpr h2
    have hfin : decide (x = y) = true := decide_eq_true (by cases x; cases y; simp_all)
    have HF := Aside0.mk hfin
    clear hfin
    clear h0
    clear h1
    clear h2
    go_enter Try.func166, Try.ntmps166
    go_wp2
    go_ret
    exact ⟨by rw [HF.out]; rfl, by repeat (first | exact Below.refl _ _ | apply below_alloc | apply below_drew1 | apply pw_below_drewN | assumption)⟩
   ·skip
    have b2 : (x.b == y.b) = false := beq_eq_false_iff_ne.mpr h2
    have d2 : (x.b != y.b) = true := bne_iff_ne.mpr h2
    have hfin : decide (x = y) = false := decide_eq_false (fun e => h2 (by rw [e]))
    have HF := Aside0.mk hfin
    clear hfin
    clear h0
    clear h1
    clear h2
    go_enter Try.func166, Try.ntmps166
    go_wp2
    go_ret
    exact ⟨by rw [HF.out]; rfl, by repeat (first | exact Below.refl _ _ | apply below_alloc | apply below_drew1 | apply pw_below_drewN | assumption)⟩
  ·skip
   have b1 : (x.a == y.a) = false := beq_eq_false_iff_ne.mpr h1
   have d1 : (x.a != y.a) = true := bne_iff_ne.mpr h1
   have hfin : decide (x = y) = false := decide_eq_false (fun e => h1 (by rw [e]))
   have HF := Aside0.mk hfin
   clear hfin
   clear h0
   clear h1
   go_enter Try.func166, Try.ntmps166
   go_wp2
   go_ret
   exact ⟨by rw [HF.out]; rfl, by repeat (first | exact Below.refl _ _ | apply below_alloc | apply below_drew1 | apply pw_below_drewN | assumption)⟩
 ·skip
  have b0 : (x.op == y.op) = false := beq_eq_false_iff_ne.mpr h0
  have d0 : (x.op != y.op) = true := bne_iff_ne.mpr h0
  have hfin : decide (x = y) = false := decide_eq_false (fun e => h0 (by rw [e]))
  have HF := Aside0.mk hfin
  clear hfin
  clear h0
  go_enter Try.func166, Try.ntmps166
  go_wp2
  go_ret
  exact ⟨by rw [HF.out]; rfl, by repeat (first | exact Below.refl _ _ | apply below_alloc | apply below_drew1 | apply pw_below_drewN | assumption)⟩
set_option maxHeartbeats 4000000 in
set_option maxRecDepth 100000 in
theorem eqInsS (A B : Option Addr) (c d : Nat) (l m : List Ins) (w : World) (hr : kIns.C w A l.length l) (hr2 : kIns.C w B m.length m) :
  Calls Try.prog 140 #[.slice A l.length c, .slice B m.length d] w fun e w' => e = .returned (.bool (decide (l = m))) ∧ Below w.heap.size w w' := by
 have hL : l.length ≤ 9223372036854775807 := hr.2.1
 by_cases hlen : l.length = m.length
 ·have b1 : ((l.length : Int) != (m.length : Int)) = false := by simp [hlen]
  have HR := Aside0.mk hr; have HR2 := Aside0.mk hr2; have HL := Aside0.mk hlen
  clear hr hr2 hlen
  go_enter Try.func140, Try.ntmps140
  go_wp2
  go_loopw [5] (fun v wr => ∃ j : Nat, v = .int .i64 j ∧ j ≤ l.length ∧ Aside0 (∀ i : Nat, i < j → el zIns l i = el zIns m i) ∧ Aside0 (Below w.heap.size w wr)) (fun v _ => l.length - (intOf v).toNat)
  case atStart => exact ⟨0, rfl, by omega, ⟨fun i hi => by omega⟩, ⟨Below.refl _ _⟩⟩
  case round =>
   obtain ⟨j, rfl, hj, HE, HW⟩ := hrel
   by_cases hlt : j < l.length
   ·obtain ⟨pa, rfl, pK, px0, px1, px2⟩ := Ins_at (Kd.C_below HR.out HW.out) j hlt
    have pK2 := Aside0.mk pK; clear pK
    obtain ⟨qa, rfl, qK, qx0, qx1, qx2⟩ := Ins_at (Kd.C_below HR2.out HW.out) j (by have := HL.out; omega)
    have qK2 := Aside0.mk qK; clear qK
    have i1 : (0 : Int) ≤ (j : Int) := by omega
    have i2 : (j : Int) < (l.length : Int) := by omega
    have i3 : (j : Int) < (m.length : Int) := by have := HL.out; omega
    by_cases he : el zIns l j = el zIns m j
    ·have b2 : decide (el zIns l j = el zIns m j) = true := decide_eq_true he
     have HE2 := Aside0.mk he
     clear he
     go_wp2
     have HS : Aside0 (∀ W : World, Below wr.heap.size wr W → W.cell? (pa.add (j * 3)) = some (.int .i64 (el zIns l j).op) ∧ W.cell? ⟨(pa.add (j * 3)).block, (pa.add (j * 3)).off + 1, none⟩ = some (.int .i64 (el zIns l j).a) ∧ W.cell? ⟨(pa.add (j * 3)).block, (pa.add (j * 3)).off + 2, none⟩ = some (.int .i64 (el zIns l j).b) ∧ W.cell? (qa.add (j * 3)) = some (.int .i64 (el zIns m j).op) ∧ W.cell? ⟨(qa.add (j * 3)).block, (qa.add (j * 3)).off + 1, none⟩ = some (.int .i64 (el zIns m j).a) ∧ W.cell? ⟨(qa.add (j * 3)).block, (qa.add (j * 3)).off + 2, none⟩ = some (.int .i64 (el zIns m j).b)) := ⟨fun W hB => ⟨pw_cell_below hB px0, pw_cell_below hB px1, pw_cell_below hB px2, pw_cell_below hB qx0, pw_cell_below hB qx1, pw_cell_below hB qx2⟩⟩
     go_region_held3 (fun W => W.cell? (pa.add (j * 3)) = some (.int .i64 (el zIns l j).op) ∧ W.cell? ⟨(pa.add (j * 3)).block, (pa.add (j * 3)).off + 1, none⟩ = some (.int .i64 (el zIns l j).a) ∧ W.cell? ⟨(pa.add (j * 3)).block, (pa.add (j * 3)).off + 2, none⟩ = some (.int .i64 (el zIns l j).b) ∧ W.cell? (qa.add (j * 3)) = some (.int .i64 (el zIns m j).op) ∧ W.cell? ⟨(qa.add (j * 3)).block, (qa.add (j * 3)).off + 1, none⟩ = some (.int .i64 (el zIns m j).a) ∧ W.cell? ⟨(qa.add (j * 3)).block, (qa.add (j * 3)).off + 2, none⟩ = some (.int .i64 (el zIns m j).b)) (first | exact HS.out _ (below_step (below_drew1 (Below.refl _ _)) hb) | exact HS.out _ (below_drew1 (Below.refl _ _))) (first | (go_at_call 166; refine (eqIns (el zIns l j) (el zIns m j) _ _ _ ?s1 ?s2).mono ?_; (case s1 => exact Kd.K_drew0 pK2.out); (case s2 => exact Kd.K_drew0 qK2.out); rintro e w1 ⟨rfl, hb⟩))
     go_wp2
     go_roundw
     case rel => exact ⟨j + 1, by go_num, by omega, ⟨fun i hi => by rcases Nat.lt_succ_iff_lt_or_eq.1 hi with h | h; exact HE.out i h; rw [h]; exact HE2.out⟩, ⟨below_step (below_drew1 HW.out) hb⟩⟩
     case measure => simp [intOf]; omega
    ·have b2 : decide (el zIns l j = el zIns m j) = false := decide_eq_false he
     have HE2 := Aside0.mk he
     clear he
     go_wp2
     have HS : Aside0 (∀ W : World, Below wr.heap.size wr W → W.cell? (pa.add (j * 3)) = some (.int .i64 (el zIns l j).op) ∧ W.cell? ⟨(pa.add (j * 3)).block, (pa.add (j * 3)).off + 1, none⟩ = some (.int .i64 (el zIns l j).a) ∧ W.cell? ⟨(pa.add (j * 3)).block, (pa.add (j * 3)).off + 2, none⟩ = some (.int .i64 (el zIns l j).b) ∧ W.cell? (qa.add (j * 3)) = some (.int .i64 (el zIns m j).op) ∧ W.cell? ⟨(qa.add (j * 3)).block, (qa.add (j * 3)).off + 1, none⟩ = some (.int .i64 (el zIns m j).a) ∧ W.cell? ⟨(qa.add (j * 3)).block, (qa.add (j * 3)).off + 2, none⟩ = some (.int .i64 (el zIns m j).b)) := ⟨fun W hB => ⟨pw_cell_below hB px0, pw_cell_below hB px1, pw_cell_below hB px2, pw_cell_below hB qx0, pw_cell_below hB qx1, pw_cell_below hB qx2⟩⟩
     go_region_held3 (fun W => W.cell? (pa.add (j * 3)) = some (.int .i64 (el zIns l j).op) ∧ W.cell? ⟨(pa.add (j * 3)).block, (pa.add (j * 3)).off + 1, none⟩ = some (.int .i64 (el zIns l j).a) ∧ W.cell? ⟨(pa.add (j * 3)).block, (pa.add (j * 3)).off + 2, none⟩ = some (.int .i64 (el zIns l j).b) ∧ W.cell? (qa.add (j * 3)) = some (.int .i64 (el zIns m j).op) ∧ W.cell? ⟨(qa.add (j * 3)).block, (qa.add (j * 3)).off + 1, none⟩ = some (.int .i64 (el zIns m j).a) ∧ W.cell? ⟨(qa.add (j * 3)).block, (qa.add (j * 3)).off + 2, none⟩ = some (.int .i64 (el zIns m j).b)) (first | exact HS.out _ (below_step (below_drew1 (Below.refl _ _)) hb) | exact HS.out _ (below_drew1 (Below.refl _ _))) (first | (go_at_call 166; refine (eqIns (el zIns l j) (el zIns m j) _ _ _ ?s1 ?s2).mono ?_; (case s1 => exact Kd.K_drew0 pK2.out); (case s2 => exact Kd.K_drew0 qK2.out); rintro e w1 ⟨rfl, hb⟩))
     go_wp2
     go_ret
     exact ⟨by rw [decide_eq_false (fun h => HE2.out (by rw [h]))]; rfl, below_step (below_drew1 HW.out) hb⟩
   ·go_wp2
    go_ret
    exact ⟨by rw [decide_eq_true (el_ext zIns HL.out (fun i hi => HE.out i (by omega)))]; rfl, HW.out⟩
 ·have b1 : ((l.length : Int) != (m.length : Int)) = true := by simp; omega
  have HL := Aside0.mk hlen
  clear hr hr2 hlen
  go_enter Try.func140, Try.ntmps140
  go_wp2
  go_ret
  exact ⟨by rw [decide_eq_false (fun h => HL.out (by rw [h]))]; rfl, Below.refl _ _⟩
set_option maxHeartbeats 4000000 in
set_option maxRecDepth 100000 in
theorem eqCap (x y : Cap) (cs ds : List Value) (w : World) (hk : kCap.K w x cs) (hk2 : kCap.K w y ds) :
  Calls Try.prog 165 #[.agg ⟨cs⟩, .agg ⟨ds⟩] w fun e w' => e = .returned (.bool (decide (x = y))) ∧ Below w.heap.size w w' := by
 have ecs := kCap_open hk
 subst ecs
 have eds := kCap_open hk2
 subst eds
 clear hk hk2
 have hu := Try.underlying105
 by_cases h0 : x.reg = y.reg
 ·skip
  have b0 : (x.reg == y.reg) = true := beq_iff_eq.mpr h0
  have d0 : (x.reg != y.reg) = false := bne_eq_false_iff_eq.mpr h0
  by_cases h1 : x.index = y.index
  ·skip
   have b1 : (x.index == y.index) = true := beq_iff_eq.mpr h1
   have d1 : (x.index != y.index) = false := bne_eq_false_iff_eq.mpr h1
   have hfin : decide (x = y) = true := decide_eq_true (by cases x; cases y; simp_all)
   have HF := Aside0.mk hfin
   clear hfin
   clear h0
   clear h1
   go_enter Try.func165, Try.ntmps165
   go_wp2
   go_ret
   exact ⟨by rw [HF.out]; rfl, by repeat (first | exact Below.refl _ _ | apply below_alloc | apply below_drew1 | apply pw_below_drewN | assumption)⟩
  ·skip
   have b1 : (x.index == y.index) = false := beq_eq_false_iff_ne.mpr h1
   have d1 : (x.index != y.index) = true := bne_iff_ne.mpr h1
   have hfin : decide (x = y) = false := decide_eq_false (fun e => h1 (by rw [e]))
   have HF := Aside0.mk hfin
   clear hfin
   clear h0
   clear h1
   go_enter Try.func165, Try.ntmps165
   go_wp2
   go_ret
   exact ⟨by rw [HF.out]; rfl, by repeat (first | exact Below.refl _ _ | apply below_alloc | apply below_drew1 | apply pw_below_drewN | assumption)⟩
 ·skip
  have b0 : (x.reg == y.reg) = false := beq_eq_false_iff_ne.mpr h0
  have d0 : (x.reg != y.reg) = true := bne_iff_ne.mpr h0
  have hfin : decide (x = y) = false := decide_eq_false (fun e => h0 (by rw [e]))
  have HF := Aside0.mk hfin
  clear hfin
  clear h0
  go_enter Try.func165, Try.ntmps165
  go_wp2
  go_ret
  exact ⟨by rw [HF.out]; rfl, by repeat (first | exact Below.refl _ _ | apply below_alloc | apply below_drew1 | apply pw_below_drewN | assumption)⟩
set_option maxHeartbeats 4000000 in
set_option maxRecDepth 100000 in
theorem eqCapS (A B : Option Addr) (c d : Nat) (l m : List Cap) (w : World) (hr : kCap.C w A l.length l) (hr2 : kCap.C w B m.length m) :
  Calls Try.prog 139 #[.slice A l.length c, .slice B m.length d] w fun e w' => e = .returned (.bool (decide (l = m))) ∧ Below w.heap.size w w' := by
 have hL : l.length ≤ 9223372036854775807 := hr.2.1
 by_cases hlen : l.length = m.length
 ·have b1 : ((l.length : Int) != (m.length : Int)) = false := by simp [hlen]
  have HR := Aside0.mk hr; have HR2 := Aside0.mk hr2; have HL := Aside0.mk hlen
  clear hr hr2 hlen
  go_enter Try.func139, Try.ntmps139
  go_wp2
  go_loopw [5] (fun v wr => ∃ j : Nat, v = .int .i64 j ∧ j ≤ l.length ∧ Aside0 (∀ i : Nat, i < j → el zCap l i = el zCap m i) ∧ Aside0 (Below w.heap.size w wr)) (fun v _ => l.length - (intOf v).toNat)
  case atStart => exact ⟨0, rfl, by omega, ⟨fun i hi => by omega⟩, ⟨Below.refl _ _⟩⟩
  case round =>
   obtain ⟨j, rfl, hj, HE, HW⟩ := hrel
   by_cases hlt : j < l.length
   ·obtain ⟨pa, rfl, pK, px0, px1⟩ := Cap_at (Kd.C_below HR.out HW.out) j hlt
    have pK2 := Aside0.mk pK; clear pK
    obtain ⟨qa, rfl, qK, qx0, qx1⟩ := Cap_at (Kd.C_below HR2.out HW.out) j (by have := HL.out; omega)
    have qK2 := Aside0.mk qK; clear qK
    have i1 : (0 : Int) ≤ (j : Int) := by omega
    have i2 : (j : Int) < (l.length : Int) := by omega
    have i3 : (j : Int) < (m.length : Int) := by have := HL.out; omega
    by_cases he : el zCap l j = el zCap m j
    ·have b2 : decide (el zCap l j = el zCap m j) = true := decide_eq_true he
     have HE2 := Aside0.mk he
     clear he
     go_wp2
     have HS : Aside0 (∀ W : World, Below wr.heap.size wr W → W.cell? (pa.add (j * 2)) = some (.bool (el zCap l j).reg) ∧ W.cell? ⟨(pa.add (j * 2)).block, (pa.add (j * 2)).off + 1, none⟩ = some (.int .i64 (el zCap l j).index) ∧ W.cell? (qa.add (j * 2)) = some (.bool (el zCap m j).reg) ∧ W.cell? ⟨(qa.add (j * 2)).block, (qa.add (j * 2)).off + 1, none⟩ = some (.int .i64 (el zCap m j).index)) := ⟨fun W hB => ⟨pw_cell_below hB px0, pw_cell_below hB px1, pw_cell_below hB qx0, pw_cell_below hB qx1⟩⟩
     go_region_held3 (fun W => W.cell? (pa.add (j * 2)) = some (.bool (el zCap l j).reg) ∧ W.cell? ⟨(pa.add (j * 2)).block, (pa.add (j * 2)).off + 1, none⟩ = some (.int .i64 (el zCap l j).index) ∧ W.cell? (qa.add (j * 2)) = some (.bool (el zCap m j).reg) ∧ W.cell? ⟨(qa.add (j * 2)).block, (qa.add (j * 2)).off + 1, none⟩ = some (.int .i64 (el zCap m j).index)) (first | exact HS.out _ (below_step (below_drew1 (Below.refl _ _)) hb) | exact HS.out _ (below_drew1 (Below.refl _ _))) (first | (go_at_call 165; refine (eqCap (el zCap l j) (el zCap m j) _ _ _ ?s1 ?s2).mono ?_; (case s1 => exact Kd.K_drew0 pK2.out); (case s2 => exact Kd.K_drew0 qK2.out); rintro e w1 ⟨rfl, hb⟩))
     go_wp2
     go_roundw
     case rel => exact ⟨j + 1, by go_num, by omega, ⟨fun i hi => by rcases Nat.lt_succ_iff_lt_or_eq.1 hi with h | h; exact HE.out i h; rw [h]; exact HE2.out⟩, ⟨below_step (below_drew1 HW.out) hb⟩⟩
     case measure => simp [intOf]; omega
    ·have b2 : decide (el zCap l j = el zCap m j) = false := decide_eq_false he
     have HE2 := Aside0.mk he
     clear he
     go_wp2
     have HS : Aside0 (∀ W : World, Below wr.heap.size wr W → W.cell? (pa.add (j * 2)) = some (.bool (el zCap l j).reg) ∧ W.cell? ⟨(pa.add (j * 2)).block, (pa.add (j * 2)).off + 1, none⟩ = some (.int .i64 (el zCap l j).index) ∧ W.cell? (qa.add (j * 2)) = some (.bool (el zCap m j).reg) ∧ W.cell? ⟨(qa.add (j * 2)).block, (qa.add (j * 2)).off + 1, none⟩ = some (.int .i64 (el zCap m j).index)) := ⟨fun W hB => ⟨pw_cell_below hB px0, pw_cell_below hB px1, pw_cell_below hB qx0, pw_cell_below hB qx1⟩⟩
     go_region_held3 (fun W => W.cell? (pa.add (j * 2)) = some (.bool (el zCap l j).reg) ∧ W.cell? ⟨(pa.add (j * 2)).block, (pa.add (j * 2)).off + 1, none⟩ = some (.int .i64 (el zCap l j).index) ∧ W.cell? (qa.add (j * 2)) = some (.bool (el zCap m j).reg) ∧ W.cell? ⟨(qa.add (j * 2)).block, (qa.add (j * 2)).off + 1, none⟩ = some (.int .i64 (el zCap m j).index)) (first | exact HS.out _ (below_step (below_drew1 (Below.refl _ _)) hb) | exact HS.out _ (below_drew1 (Below.refl _ _))) (first | (go_at_call 165; refine (eqCap (el zCap l j) (el zCap m j) _ _ _ ?s1 ?s2).mono ?_; (case s1 => exact Kd.K_drew0 pK2.out); (case s2 => exact Kd.K_drew0 qK2.out); rintro e w1 ⟨rfl, hb⟩))
     go_wp2
     go_ret
     exact ⟨by rw [decide_eq_false (fun h => HE2.out (by rw [h]))]; rfl, below_step (below_drew1 HW.out) hb⟩
   ·go_wp2
    go_ret
    exact ⟨by rw [decide_eq_true (el_ext zCap HL.out (fun i hi => HE.out i (by omega)))]; rfl, HW.out⟩
 ·have b1 : ((l.length : Int) != (m.length : Int)) = true := by simp; omega
  have HL := Aside0.mk hlen
  clear hr hr2 hlen
  go_enter Try.func139, Try.ntmps139
  go_wp2
  go_ret
  exact ⟨by rw [decide_eq_false (fun h => HL.out (by rw [h]))]; rfl, Below.refl _ _⟩
set_option maxHeartbeats 4000000 in
set_option maxRecDepth 100000 in
theorem eqHandler (x y : Handler) (cs ds : List Value) (w : World) (hk : kHandler.K w x cs) (hk2 : kHandler.K w y ds) :
  Calls Try.prog 167 #[.agg ⟨cs⟩, .agg ⟨ds⟩] w fun e w' => e = .returned (.bool (decide (x = y))) ∧ Below w.heap.size w w' := by
 have ecs := kHandler_open hk
 subst ecs
 have eds := kHandler_open hk2
 subst eds
 clear hk hk2
 have hu := Try.underlying107
 by_cases h0 : x.from_ = y.from_
 ·skip
  have b0 : (x.from_ == y.from_) = true := beq_iff_eq.mpr h0
  have d0 : (x.from_ != y.from_) = false := bne_eq_false_iff_eq.mpr h0
  by_cases h1 : x.to_ = y.to_
  ·skip
   have b1 : (x.to_ == y.to_) = true := beq_iff_eq.mpr h1
   have d1 : (x.to_ != y.to_) = false := bne_eq_false_iff_eq.mpr h1
   by_cases h2 : x.target = y.target
   ·skip
    have b2 : (x.target == y.target) = true := beq_iff_eq.mpr h2
    have d2 : (x.target != y.target) = false := bne_eq_false_iff_eq.mpr h2
    have hfin : decide (x = y) = true := decide_eq_true (by cases x; cases y; simp_all)
    have HF := Aside0.mk hfin
    clear hfin
    clear h0
    clear h1
    clear h2
    go_enter Try.func167, Try.ntmps167
    go_wp2
    go_ret
    exact ⟨by rw [HF.out]; rfl, by repeat (first | exact Below.refl _ _ | apply below_alloc | apply below_drew1 | apply pw_below_drewN | assumption)⟩
   ·skip
    have b2 : (x.target == y.target) = false := beq_eq_false_iff_ne.mpr h2
    have d2 : (x.target != y.target) = true := bne_iff_ne.mpr h2
    have hfin : decide (x = y) = false := decide_eq_false (fun e => h2 (by rw [e]))
    have HF := Aside0.mk hfin
    clear hfin
    clear h0
    clear h1
    clear h2
    go_enter Try.func167, Try.ntmps167
    go_wp2
    go_ret
    exact ⟨by rw [HF.out]; rfl, by repeat (first | exact Below.refl _ _ | apply below_alloc | apply below_drew1 | apply pw_below_drewN | assumption)⟩
  ·skip
   have b1 : (x.to_ == y.to_) = false := beq_eq_false_iff_ne.mpr h1
   have d1 : (x.to_ != y.to_) = true := bne_iff_ne.mpr h1
   have hfin : decide (x = y) = false := decide_eq_false (fun e => h1 (by rw [e]))
   have HF := Aside0.mk hfin
   clear hfin
   clear h0
   clear h1
   go_enter Try.func167, Try.ntmps167
   go_wp2
   go_ret
   exact ⟨by rw [HF.out]; rfl, by repeat (first | exact Below.refl _ _ | apply below_alloc | apply below_drew1 | apply pw_below_drewN | assumption)⟩
 ·skip
  have b0 : (x.from_ == y.from_) = false := beq_eq_false_iff_ne.mpr h0
  have d0 : (x.from_ != y.from_) = true := bne_iff_ne.mpr h0
  have hfin : decide (x = y) = false := decide_eq_false (fun e => h0 (by rw [e]))
  have HF := Aside0.mk hfin
  clear hfin
  clear h0
  go_enter Try.func167, Try.ntmps167
  go_wp2
  go_ret
  exact ⟨by rw [HF.out]; rfl, by repeat (first | exact Below.refl _ _ | apply below_alloc | apply below_drew1 | apply pw_below_drewN | assumption)⟩
set_option maxHeartbeats 4000000 in
set_option maxRecDepth 100000 in
theorem eqHandlerS (A B : Option Addr) (c d : Nat) (l m : List Handler) (w : World) (hr : kHandler.C w A l.length l) (hr2 : kHandler.C w B m.length m) :
  Calls Try.prog 141 #[.slice A l.length c, .slice B m.length d] w fun e w' => e = .returned (.bool (decide (l = m))) ∧ Below w.heap.size w w' := by
 have hL : l.length ≤ 9223372036854775807 := hr.2.1
 by_cases hlen : l.length = m.length
 ·have b1 : ((l.length : Int) != (m.length : Int)) = false := by simp [hlen]
  have HR := Aside0.mk hr; have HR2 := Aside0.mk hr2; have HL := Aside0.mk hlen
  clear hr hr2 hlen
  go_enter Try.func141, Try.ntmps141
  go_wp2
  go_loopw [5] (fun v wr => ∃ j : Nat, v = .int .i64 j ∧ j ≤ l.length ∧ Aside0 (∀ i : Nat, i < j → el zHandler l i = el zHandler m i) ∧ Aside0 (Below w.heap.size w wr)) (fun v _ => l.length - (intOf v).toNat)
  case atStart => exact ⟨0, rfl, by omega, ⟨fun i hi => by omega⟩, ⟨Below.refl _ _⟩⟩
  case round =>
   obtain ⟨j, rfl, hj, HE, HW⟩ := hrel
   by_cases hlt : j < l.length
   ·obtain ⟨pa, rfl, pK, px0, px1, px2⟩ := Handler_at (Kd.C_below HR.out HW.out) j hlt
    have pK2 := Aside0.mk pK; clear pK
    obtain ⟨qa, rfl, qK, qx0, qx1, qx2⟩ := Handler_at (Kd.C_below HR2.out HW.out) j (by have := HL.out; omega)
    have qK2 := Aside0.mk qK; clear qK
    have i1 : (0 : Int) ≤ (j : Int) := by omega
    have i2 : (j : Int) < (l.length : Int) := by omega
    have i3 : (j : Int) < (m.length : Int) := by have := HL.out; omega
    by_cases he : el zHandler l j = el zHandler m j
    ·have b2 : decide (el zHandler l j = el zHandler m j) = true := decide_eq_true he
     have HE2 := Aside0.mk he
     clear he
     go_wp2
     have HS : Aside0 (∀ W : World, Below wr.heap.size wr W → W.cell? (pa.add (j * 3)) = some (.int .i64 (el zHandler l j).from_) ∧ W.cell? ⟨(pa.add (j * 3)).block, (pa.add (j * 3)).off + 1, none⟩ = some (.int .i64 (el zHandler l j).to_) ∧ W.cell? ⟨(pa.add (j * 3)).block, (pa.add (j * 3)).off + 2, none⟩ = some (.int .i64 (el zHandler l j).target) ∧ W.cell? (qa.add (j * 3)) = some (.int .i64 (el zHandler m j).from_) ∧ W.cell? ⟨(qa.add (j * 3)).block, (qa.add (j * 3)).off + 1, none⟩ = some (.int .i64 (el zHandler m j).to_) ∧ W.cell? ⟨(qa.add (j * 3)).block, (qa.add (j * 3)).off + 2, none⟩ = some (.int .i64 (el zHandler m j).target)) := ⟨fun W hB => ⟨pw_cell_below hB px0, pw_cell_below hB px1, pw_cell_below hB px2, pw_cell_below hB qx0, pw_cell_below hB qx1, pw_cell_below hB qx2⟩⟩
     go_region_held3 (fun W => W.cell? (pa.add (j * 3)) = some (.int .i64 (el zHandler l j).from_) ∧ W.cell? ⟨(pa.add (j * 3)).block, (pa.add (j * 3)).off + 1, none⟩ = some (.int .i64 (el zHandler l j).to_) ∧ W.cell? ⟨(pa.add (j * 3)).block, (pa.add (j * 3)).off + 2, none⟩ = some (.int .i64 (el zHandler l j).target) ∧ W.cell? (qa.add (j * 3)) = some (.int .i64 (el zHandler m j).from_) ∧ W.cell? ⟨(qa.add (j * 3)).block, (qa.add (j * 3)).off + 1, none⟩ = some (.int .i64 (el zHandler m j).to_) ∧ W.cell? ⟨(qa.add (j * 3)).block, (qa.add (j * 3)).off + 2, none⟩ = some (.int .i64 (el zHandler m j).target)) (first | exact HS.out _ (below_step (below_drew1 (Below.refl _ _)) hb) | exact HS.out _ (below_drew1 (Below.refl _ _))) (first | (go_at_call 167; refine (eqHandler (el zHandler l j) (el zHandler m j) _ _ _ ?s1 ?s2).mono ?_; (case s1 => exact Kd.K_drew0 pK2.out); (case s2 => exact Kd.K_drew0 qK2.out); rintro e w1 ⟨rfl, hb⟩))
     go_wp2
     go_roundw
     case rel => exact ⟨j + 1, by go_num, by omega, ⟨fun i hi => by rcases Nat.lt_succ_iff_lt_or_eq.1 hi with h | h; exact HE.out i h; rw [h]; exact HE2.out⟩, ⟨below_step (below_drew1 HW.out) hb⟩⟩
     case measure => simp [intOf]; omega
    ·have b2 : decide (el zHandler l j = el zHandler m j) = false := decide_eq_false he
     have HE2 := Aside0.mk he
     clear he
     go_wp2
     have HS : Aside0 (∀ W : World, Below wr.heap.size wr W → W.cell? (pa.add (j * 3)) = some (.int .i64 (el zHandler l j).from_) ∧ W.cell? ⟨(pa.add (j * 3)).block, (pa.add (j * 3)).off + 1, none⟩ = some (.int .i64 (el zHandler l j).to_) ∧ W.cell? ⟨(pa.add (j * 3)).block, (pa.add (j * 3)).off + 2, none⟩ = some (.int .i64 (el zHandler l j).target) ∧ W.cell? (qa.add (j * 3)) = some (.int .i64 (el zHandler m j).from_) ∧ W.cell? ⟨(qa.add (j * 3)).block, (qa.add (j * 3)).off + 1, none⟩ = some (.int .i64 (el zHandler m j).to_) ∧ W.cell? ⟨(qa.add (j * 3)).block, (qa.add (j * 3)).off + 2, none⟩ = some (.int .i64 (el zHandler m j).target)) := ⟨fun W hB => ⟨pw_cell_below hB px0, pw_cell_below hB px1, pw_cell_below hB px2, pw_cell_below hB qx0, pw_cell_below hB qx1, pw_cell_below hB qx2⟩⟩
     go_region_held3 (fun W => W.cell? (pa.add (j * 3)) = some (.int .i64 (el zHandler l j).from_) ∧ W.cell? ⟨(pa.add (j * 3)).block, (pa.add (j * 3)).off + 1, none⟩ = some (.int .i64 (el zHandler l j).to_) ∧ W.cell? ⟨(pa.add (j * 3)).block, (pa.add (j * 3)).off + 2, none⟩ = some (.int .i64 (el zHandler l j).target) ∧ W.cell? (qa.add (j * 3)) = some (.int .i64 (el zHandler m j).from_) ∧ W.cell? ⟨(qa.add (j * 3)).block, (qa.add (j * 3)).off + 1, none⟩ = some (.int .i64 (el zHandler m j).to_) ∧ W.cell? ⟨(qa.add (j * 3)).block, (qa.add (j * 3)).off + 2, none⟩ = some (.int .i64 (el zHandler m j).target)) (first | exact HS.out _ (below_step (below_drew1 (Below.refl _ _)) hb) | exact HS.out _ (below_drew1 (Below.refl _ _))) (first | (go_at_call 167; refine (eqHandler (el zHandler l j) (el zHandler m j) _ _ _ ?s1 ?s2).mono ?_; (case s1 => exact Kd.K_drew0 pK2.out); (case s2 => exact Kd.K_drew0 qK2.out); rintro e w1 ⟨rfl, hb⟩))
     go_wp2
     go_ret
     exact ⟨by rw [decide_eq_false (fun h => HE2.out (by rw [h]))]; rfl, below_step (below_drew1 HW.out) hb⟩
   ·go_wp2
    go_ret
    exact ⟨by rw [decide_eq_true (el_ext zHandler HL.out (fun i hi => HE.out i (by omega)))]; rfl, HW.out⟩
 ·have b1 : ((l.length : Int) != (m.length : Int)) = true := by simp; omega
  have HL := Aside0.mk hlen
  clear hr hr2 hlen
  go_enter Try.func141, Try.ntmps141
  go_wp2
  go_ret
  exact ⟨by rw [decide_eq_false (fun h => HL.out (by rw [h]))]; rfl, Below.refl _ _⟩
set_option maxHeartbeats 4000000 in
set_option maxRecDepth 100000 in
theorem eqConst (x y : Const) (cs ds : List Value) (w : World) (hk : kConst.K w x cs) (hk2 : kConst.K w y ds) :
  Calls Try.prog 105 #[.agg ⟨cs⟩, .agg ⟨ds⟩] w fun e w' => e = .returned (.bool (decide (x = y))) ∧ Below w.heap.size w w' := by
 have ecs := kConst_open hk
 subst ecs
 have eds := kConst_open hk2
 subst eds
 clear hk hk2
 have hu := Try.underlying100
 by_cases h0 : x.kind = y.kind
 ·skip
  have b0 : (x.kind == y.kind) = true := beq_iff_eq.mpr h0
  have d0 : (x.kind != y.kind) = false := bne_eq_false_iff_eq.mpr h0
  by_cases h1 : x.num = y.num
  ·skip
   have b1 : (x.num == y.num) = true := beq_iff_eq.mpr h1
   have d1 : (x.num != y.num) = false := bne_eq_false_iff_eq.mpr h1
   by_cases h2 : x.text = y.text
   ·skip
    have b2 : (x.text.toList == y.text.toList) = true := by rw [h2]; exact beq_self_eq_true _
    have d2 : (x.text.toList != y.text.toList) = false := by rw [h2]; exact bne_self_eq_false _
    have hfin : decide (x = y) = true := decide_eq_true (by cases x; cases y; simp_all)
    have HF := Aside0.mk hfin
    clear hfin
    clear h0
    clear h1
    clear h2
    go_enter Try.func105, Try.ntmps105
    go_wp2
    go_ret
    exact ⟨by rw [HF.out]; rfl, by repeat (first | exact Below.refl _ _ | apply below_alloc | apply below_drew1 | apply pw_below_drewN | assumption)⟩
   ·skip
    have n2 : ¬ x.text.toList = y.text.toList := fun e => h2 (bytes_ext e)
    have b2 : (x.text.toList == y.text.toList) = false := beq_eq_false_iff_ne.mpr n2
    have d2 : (x.text.toList != y.text.toList) = true := bne_iff_ne.mpr n2
    clear n2
    have hfin : decide (x = y) = false := decide_eq_false (fun e => h2 (by rw [e]))
    have HF := Aside0.mk hfin
    clear hfin
    clear h0
    clear h1
    clear h2
    go_enter Try.func105, Try.ntmps105
    go_wp2
    go_ret
    exact ⟨by rw [HF.out]; rfl, by repeat (first | exact Below.refl _ _ | apply below_alloc | apply below_drew1 | apply pw_below_drewN | assumption)⟩
  ·skip
   have b1 : (x.num == y.num) = false := beq_eq_false_iff_ne.mpr h1
   have d1 : (x.num != y.num) = true := bne_iff_ne.mpr h1
   have hfin : decide (x = y) = false := decide_eq_false (fun e => h1 (by rw [e]))
   have HF := Aside0.mk hfin
   clear hfin
   clear h0
   clear h1
   go_enter Try.func105, Try.ntmps105
   go_wp2
   go_ret
   exact ⟨by rw [HF.out]; rfl, by repeat (first | exact Below.refl _ _ | apply below_alloc | apply below_drew1 | apply pw_below_drewN | assumption)⟩
 ·skip
  have b0 : (x.kind == y.kind) = false := beq_eq_false_iff_ne.mpr h0
  have d0 : (x.kind != y.kind) = true := bne_iff_ne.mpr h0
  have hfin : decide (x = y) = false := decide_eq_false (fun e => h0 (by rw [e]))
  have HF := Aside0.mk hfin
  clear hfin
  clear h0
  go_enter Try.func105, Try.ntmps105
  go_wp2
  go_ret
  exact ⟨by rw [HF.out]; rfl, by repeat (first | exact Below.refl _ _ | apply below_alloc | apply below_drew1 | apply pw_below_drewN | assumption)⟩
set_option maxHeartbeats 4000000 in
set_option maxRecDepth 100000 in
theorem eqConstS (A B : Option Addr) (c d : Nat) (l m : List Const) (w : World) (hr : kConst.C w A l.length l) (hr2 : kConst.C w B m.length m) :
  Calls Try.prog 63 #[.slice A l.length c, .slice B m.length d] w fun e w' => e = .returned (.bool (decide (l = m))) ∧ Below w.heap.size w w' := by
 have hL : l.length ≤ 9223372036854775807 := hr.2.1
 by_cases hlen : l.length = m.length
 ·have b1 : ((l.length : Int) != (m.length : Int)) = false := by simp [hlen]
  have HR := Aside0.mk hr; have HR2 := Aside0.mk hr2; have HL := Aside0.mk hlen
  clear hr hr2 hlen
  go_enter Try.func63, Try.ntmps63
  go_wp2
  go_loopw [5] (fun v wr => ∃ j : Nat, v = .int .i64 j ∧ j ≤ l.length ∧ Aside0 (∀ i : Nat, i < j → el zConst l i = el zConst m i) ∧ Aside0 (Below w.heap.size w wr)) (fun v _ => l.length - (intOf v).toNat)
  case atStart => exact ⟨0, rfl, by omega, ⟨fun i hi => by omega⟩, ⟨Below.refl _ _⟩⟩
  case round =>
   obtain ⟨j, rfl, hj, HE, HW⟩ := hrel
   by_cases hlt : j < l.length
   ·obtain ⟨pa, rfl, pK, px0, px1, px2⟩ := Const_at (Kd.C_below HR.out HW.out) j hlt
    have pK2 := Aside0.mk pK; clear pK
    obtain ⟨qa, rfl, qK, qx0, qx1, qx2⟩ := Const_at (Kd.C_below HR2.out HW.out) j (by have := HL.out; omega)
    have qK2 := Aside0.mk qK; clear qK
    have i1 : (0 : Int) ≤ (j : Int) := by omega
    have i2 : (j : Int) < (l.length : Int) := by omega
    have i3 : (j : Int) < (m.length : Int) := by have := HL.out; omega
    by_cases he : el zConst l j = el zConst m j
    ·have b2 : decide (el zConst l j = el zConst m j) = true := decide_eq_true he
     have HE2 := Aside0.mk he
     clear he
     go_wp2
     have HS : Aside0 (∀ W : World, Below wr.heap.size wr W → W.cell? (pa.add (j * 3)) = some (.int .i64 (el zConst l j).kind) ∧ W.cell? ⟨(pa.add (j * 3)).block, (pa.add (j * 3)).off + 1, none⟩ = some (.int .u64 (el zConst l j).num) ∧ W.cell? ⟨(pa.add (j * 3)).block, (pa.add (j * 3)).off + 2, none⟩ = some (.string (el zConst l j).text) ∧ W.cell? (qa.add (j * 3)) = some (.int .i64 (el zConst m j).kind) ∧ W.cell? ⟨(qa.add (j * 3)).block, (qa.add (j * 3)).off + 1, none⟩ = some (.int .u64 (el zConst m j).num) ∧ W.cell? ⟨(qa.add (j * 3)).block, (qa.add (j * 3)).off + 2, none⟩ = some (.string (el zConst m j).text)) := ⟨fun W hB => ⟨pw_cell_below hB px0, pw_cell_below hB px1, pw_cell_below hB px2, pw_cell_below hB qx0, pw_cell_below hB qx1, pw_cell_below hB qx2⟩⟩
     go_region_held3 (fun W => W.cell? (pa.add (j * 3)) = some (.int .i64 (el zConst l j).kind) ∧ W.cell? ⟨(pa.add (j * 3)).block, (pa.add (j * 3)).off + 1, none⟩ = some (.int .u64 (el zConst l j).num) ∧ W.cell? ⟨(pa.add (j * 3)).block, (pa.add (j * 3)).off + 2, none⟩ = some (.string (el zConst l j).text) ∧ W.cell? (qa.add (j * 3)) = some (.int .i64 (el zConst m j).kind) ∧ W.cell? ⟨(qa.add (j * 3)).block, (qa.add (j * 3)).off + 1, none⟩ = some (.int .u64 (el zConst m j).num) ∧ W.cell? ⟨(qa.add (j * 3)).block, (qa.add (j * 3)).off + 2, none⟩ = some (.string (el zConst m j).text)) (first | exact HS.out _ (below_step (below_drew1 (Below.refl _ _)) hb) | exact HS.out _ (below_drew1 (Below.refl _ _))) (first | (go_at_call 105; refine (eqConst (el zConst l j) (el zConst m j) _ _ _ ?s1 ?s2).mono ?_; (case s1 => exact Kd.K_drew0 pK2.out); (case s2 => exact Kd.K_drew0 qK2.out); rintro e w1 ⟨rfl, hb⟩))
     go_wp2
     go_roundw
     case rel => exact ⟨j + 1, by go_num, by omega, ⟨fun i hi => by rcases Nat.lt_succ_iff_lt_or_eq.1 hi with h | h; exact HE.out i h; rw [h]; exact HE2.out⟩, ⟨below_step (below_drew1 HW.out) hb⟩⟩
     case measure => simp [intOf]; omega
    ·have b2 : decide (el zConst l j = el zConst m j) = false := decide_eq_false he
     have HE2 := Aside0.mk he
     clear he
     go_wp2
     have HS : Aside0 (∀ W : World, Below wr.heap.size wr W → W.cell? (pa.add (j * 3)) = some (.int .i64 (el zConst l j).kind) ∧ W.cell? ⟨(pa.add (j * 3)).block, (pa.add (j * 3)).off + 1, none⟩ = some (.int .u64 (el zConst l j).num) ∧ W.cell? ⟨(pa.add (j * 3)).block, (pa.add (j * 3)).off + 2, none⟩ = some (.string (el zConst l j).text) ∧ W.cell? (qa.add (j * 3)) = some (.int .i64 (el zConst m j).kind) ∧ W.cell? ⟨(qa.add (j * 3)).block, (qa.add (j * 3)).off + 1, none⟩ = some (.int .u64 (el zConst m j).num) ∧ W.cell? ⟨(qa.add (j * 3)).block, (qa.add (j * 3)).off + 2, none⟩ = some (.string (el zConst m j).text)) := ⟨fun W hB => ⟨pw_cell_below hB px0, pw_cell_below hB px1, pw_cell_below hB px2, pw_cell_below hB qx0, pw_cell_below hB qx1, pw_cell_below hB qx2⟩⟩
     go_region_held3 (fun W => W.cell? (pa.add (j * 3)) = some (.int .i64 (el zConst l j).kind) ∧ W.cell? ⟨(pa.add (j * 3)).block, (pa.add (j * 3)).off + 1, none⟩ = some (.int .u64 (el zConst l j).num) ∧ W.cell? ⟨(pa.add (j * 3)).block, (pa.add (j * 3)).off + 2, none⟩ = some (.string (el zConst l j).text) ∧ W.cell? (qa.add (j * 3)) = some (.int .i64 (el zConst m j).kind) ∧ W.cell? ⟨(qa.add (j * 3)).block, (qa.add (j * 3)).off + 1, none⟩ = some (.int .u64 (el zConst m j).num) ∧ W.cell? ⟨(qa.add (j * 3)).block, (qa.add (j * 3)).off + 2, none⟩ = some (.string (el zConst m j).text)) (first | exact HS.out _ (below_step (below_drew1 (Below.refl _ _)) hb) | exact HS.out _ (below_drew1 (Below.refl _ _))) (first | (go_at_call 105; refine (eqConst (el zConst l j) (el zConst m j) _ _ _ ?s1 ?s2).mono ?_; (case s1 => exact Kd.K_drew0 pK2.out); (case s2 => exact Kd.K_drew0 qK2.out); rintro e w1 ⟨rfl, hb⟩))
     go_wp2
     go_ret
     exact ⟨by rw [decide_eq_false (fun h => HE2.out (by rw [h]))]; rfl, below_step (below_drew1 HW.out) hb⟩
   ·go_wp2
    go_ret
    exact ⟨by rw [decide_eq_true (el_ext zConst HL.out (fun i hi => HE.out i (by omega)))]; rfl, HW.out⟩
 ·have b1 : ((l.length : Int) != (m.length : Int)) = true := by simp; omega
  have HL := Aside0.mk hlen
  clear hr hr2 hlen
  go_enter Try.func63, Try.ntmps63
  go_wp2
  go_ret
  exact ⟨by rw [decide_eq_false (fun h => HL.out (by rw [h]))]; rfl, Below.refl _ _⟩
end Go.Proofs.Ytcbaokflimdjnaa
end
section
namespace Go.Proofs.Ytcbaokflimdjnaa
open Go.RowKit Go.Proofs.YtcbaokflimdjnaaW.PrintWords Go.Proofs.YtcbaokflimdjnaaW.PrintMore Go.Proofs.Ytcbaokflimdjnaa.Law Go.Proofs.Ytcbaokflimdjnaa.Num
set_option maxHeartbeats 4000000 in
set_option maxRecDepth 100000 in
theorem eqFunc (x y : Func) (cs ds : List Value) (w : World) (hk : kFuncI.K w x cs) (hk2 : kFuncI.K w y ds) :
  Calls Try.prog 104 #[.agg ⟨cs⟩, .agg ⟨ds⟩] w fun e w' => e = .returned (.bool (decide (x = y))) ∧ Below w.heap.size w w' := by
 obtain ⟨pA2, pc2, pA3, pc3, pA4, pc4, rfl, pl2, pg2, pl3, pg3, pl4, pg4⟩ := kFuncI_open hk
 have pG2 := Aside0.mk pg2; have pL2 := Aside0.mk pl2; clear pg2 pl2
 have pG3 := Aside0.mk pg3; have pL3 := Aside0.mk pl3; clear pg3 pl3
 have pG4 := Aside0.mk pg4; have pL4 := Aside0.mk pl4; clear pg4 pl4
 obtain ⟨qA2, qc2, qA3, qc3, qA4, qc4, rfl, ql2, qg2, ql3, qg3, ql4, qg4⟩ := kFuncI_open hk2
 have qG2 := Aside0.mk qg2; have qL2 := Aside0.mk ql2; clear qg2 ql2
 have qG3 := Aside0.mk qg3; have qL3 := Aside0.mk ql3; clear qg3 ql3
 have qG4 := Aside0.mk qg4; have qL4 := Aside0.mk ql4; clear qg4 ql4
 clear hk hk2
 have hu := Try.underlying73
 have A0 := Aside0.mk (((At.start w).alloc #[.int .i64 x.params, .int .i64 x.regs, .slice pA2 x.caps.length pc2, .slice pA3 x.code.length pc3, .slice pA4 x.handlers.length pc4] 73).alloc #[.int .i64 y.params, .int .i64 y.regs, .slice qA2 y.caps.length qc2, .slice qA3 y.code.length qc3, .slice qA4 y.handlers.length qc4] 73)
 rw [show (w.alloc (.cells #[.int .i64 x.params, .int .i64 x.regs, .slice pA2 x.caps.length pc2, .slice pA3 x.code.length pc3, .slice pA4 x.handlers.length pc4] 73)).heap.size = w.heap.size + 1 by simp] at A0
 by_cases h0 : x.params = y.params
 ·skip
  have b0 : (x.params == y.params) = true := beq_iff_eq.mpr h0
  have d0 : (x.params != y.params) = false := bne_eq_false_iff_eq.mpr h0
  by_cases h1 : x.regs = y.regs
  ·skip
   have b1 : (x.regs == y.regs) = true := beq_iff_eq.mpr h1
   have d1 : (x.regs != y.regs) = false := bne_eq_false_iff_eq.mpr h1
   by_cases h2 : x.caps = y.caps
   ·skip
    have d2 : decide (x.caps = y.caps) = true := decide_eq_true h2
    by_cases h3 : x.code = y.code
    ·skip
     have d3 : decide (x.code = y.code) = true := decide_eq_true h3
     by_cases h4 : x.handlers = y.handlers
     ·skip
      have d4 : decide (x.handlers = y.handlers) = true := decide_eq_true h4
      have hfin : decide (x = y) = true := decide_eq_true (by cases x; cases y; simp_all)
      have HF := Aside0.mk hfin
      clear hfin
      clear h0
      clear h1
      clear h2
      clear h3
      clear h4
      go_enter Try.func104, Try.ntmps104
      go_wp2_with fail
      refine (eqCapS _ _ _ _ _ _ _ (A0.out.reads pG2.out) (A0.out.reads qG2.out)).mono ?_
      rintro e w1 ⟨rfl, hb0⟩
      have hb := hb0
      have A1 := Aside0.mk (A0.out.step hb)
      clear hb hb0 A0
      have z0 := A1.out.cell1; have z1 := A1.out.cell0
      go_wp2_with fail
      refine (eqInsS _ _ _ _ _ _ _ (A1.out.reads pG3.out) (A1.out.reads qG3.out)).mono ?_
      rintro e w2 ⟨rfl, hb0⟩
      have hb := hb0
      have A2 := Aside0.mk (A1.out.step hb)
      clear hb hb0 A1 z0 z1
      have z0 := A2.out.cell1; have z1 := A2.out.cell0
      go_wp2_with fail
      refine (eqHandlerS _ _ _ _ _ _ _ (A2.out.reads pG4.out) (A2.out.reads qG4.out)).mono ?_
      rintro e w3 ⟨rfl, hb0⟩
      have hb := hb0
      have A3 := Aside0.mk (A2.out.step hb)
      clear hb hb0 A2 z0 z1
      have z0 := A3.out.cell1; have z1 := A3.out.cell0
      go_wp2
      go_ret
      exact ⟨by rw [HF.out]; rfl, A3.out.below⟩
     ·skip
      have d4 : decide (x.handlers = y.handlers) = false := decide_eq_false h4
      have hfin : decide (x = y) = false := decide_eq_false (fun e => h4 (by rw [e]))
      have HF := Aside0.mk hfin
      clear hfin
      clear h0
      clear h1
      clear h2
      clear h3
      clear h4
      go_enter Try.func104, Try.ntmps104
      go_wp2_with fail
      refine (eqCapS _ _ _ _ _ _ _ (A0.out.reads pG2.out) (A0.out.reads qG2.out)).mono ?_
      rintro e w1 ⟨rfl, hb0⟩
      have hb := hb0
      have A1 := Aside0.mk (A0.out.step hb)
      clear hb hb0 A0
      have z0 := A1.out.cell1; have z1 := A1.out.cell0
      go_wp2_with fail
      refine (eqInsS _ _ _ _ _ _ _ (A1.out.reads pG3.out) (A1.out.reads qG3.out)).mono ?_
      rintro e w2 ⟨rfl, hb0⟩
      have hb := hb0
      have A2 := Aside0.mk (A1.out.step hb)
      clear hb hb0 A1 z0 z1
      have z0 := A2.out.cell1; have z1 := A2.out.cell0
      go_wp2_with fail
      refine (eqHandlerS _ _ _ _ _ _ _ (A2.out.reads pG4.out) (A2.out.reads qG4.out)).mono ?_
      rintro e w3 ⟨rfl, hb0⟩
      have hb := hb0
      have A3 := Aside0.mk (A2.out.step hb)
      clear hb hb0 A2 z0 z1
      have z0 := A3.out.cell1; have z1 := A3.out.cell0
      go_wp2
      go_ret
      exact ⟨by rw [HF.out]; rfl, A3.out.below⟩
    ·skip
     have d3 : decide (x.code = y.code) = false := decide_eq_false h3
     have hfin : decide (x = y) = false := decide_eq_false (fun e => h3 (by rw [e]))
     have HF := Aside0.mk hfin
     clear hfin
     clear h0
     clear h1
     clear h2
     clear h3
     go_enter Try.func104, Try.ntmps104
     go_wp2_with fail
     refine (eqCapS _ _ _ _ _ _ _ (A0.out.reads pG2.out) (A0.out.reads qG2.out)).mono ?_
     rintro e w1 ⟨rfl, hb0⟩
     have hb := hb0
     have A1 := Aside0.mk (A0.out.step hb)
     clear hb hb0 A0
     have z0 := A1.out.cell1; have z1 := A1.out.cell0
     go_wp2_with fail
     refine (eqInsS _ _ _ _ _ _ _ (A1.out.reads pG3.out) (A1.out.reads qG3.out)).mono ?_
     rintro e w2 ⟨rfl, hb0⟩
     have hb := hb0
     have A2 := Aside0.mk (A1.out.step hb)
     clear hb hb0 A1 z0 z1
     have z0 := A2.out.cell1; have z1 := A2.out.cell0
     go_wp2
     go_ret
     exact ⟨by rw [HF.out]; rfl, A2.out.below⟩
   ·skip
    have d2 : decide (x.caps = y.caps) = false := decide_eq_false h2
    have hfin : decide (x = y) = false := decide_eq_false (fun e => h2 (by rw [e]))
    have HF := Aside0.mk hfin
    clear hfin
    clear h0
    clear h1
    clear h2
    go_enter Try.func104, Try.ntmps104
    go_wp2_with fail
    refine (eqCapS _ _ _ _ _ _ _ (A0.out.reads pG2.out) (A0.out.reads qG2.out)).mono ?_
    rintro e w1 ⟨rfl, hb0⟩
    have hb := hb0
    have A1 := Aside0.mk (A0.out.step hb)
    clear hb hb0 A0
    have z0 := A1.out.cell1; have z1 := A1.out.cell0
    go_wp2
    go_ret
    exact ⟨by rw [HF.out]; rfl, A1.out.below⟩
  ·skip
   have b1 : (x.regs == y.regs) = false := beq_eq_false_iff_ne.mpr h1
   have d1 : (x.regs != y.regs) = true := bne_iff_ne.mpr h1
   have hfin : decide (x = y) = false := decide_eq_false (fun e => h1 (by rw [e]))
   have HF := Aside0.mk hfin
   clear hfin
   clear h0
   clear h1
   go_enter Try.func104, Try.ntmps104
   go_wp2
   go_ret
   exact ⟨by rw [HF.out]; rfl, by repeat (first | exact Below.refl _ _ | apply below_alloc | apply below_drew1 | apply pw_below_drewN | assumption)⟩
 ·skip
  have b0 : (x.params == y.params) = false := beq_eq_false_iff_ne.mpr h0
  have d0 : (x.params != y.params) = true := bne_iff_ne.mpr h0
  have hfin : decide (x = y) = false := decide_eq_false (fun e => h0 (by rw [e]))
  have HF := Aside0.mk hfin
  clear hfin
  clear h0
  go_enter Try.func104, Try.ntmps104
  go_wp2
  go_ret
  exact ⟨by rw [HF.out]; rfl, by repeat (first | exact Below.refl _ _ | apply below_alloc | apply below_drew1 | apply pw_below_drewN | assumption)⟩
set_option maxHeartbeats 4000000 in
set_option maxRecDepth 100000 in
theorem eqFuncS (A B : Option Addr) (c d : Nat) (l m : List Func) (w : World) (hr : kFuncI.C w A l.length l) (hr2 : kFuncI.C w B m.length m) :
  Calls Try.prog 62 #[.slice A l.length c, .slice B m.length d] w fun e w' => e = .returned (.bool (decide (l = m))) ∧ Below w.heap.size w w' := by
 have hL : l.length ≤ 9223372036854775807 := hr.2.1
 by_cases hlen : l.length = m.length
 ·have b1 : ((l.length : Int) != (m.length : Int)) = false := by simp [hlen]
  have HR := Aside0.mk hr; have HR2 := Aside0.mk hr2; have HL := Aside0.mk hlen
  clear hr hr2 hlen
  go_enter Try.func62, Try.ntmps62
  go_wp2
  go_loopw [5] (fun v wr => ∃ j : Nat, v = .int .i64 j ∧ j ≤ l.length ∧ Aside0 (∀ i : Nat, i < j → el zFunc l i = el zFunc m i) ∧ Aside0 (Below w.heap.size w wr)) (fun v _ => l.length - (intOf v).toNat)
  case atStart => exact ⟨0, rfl, by omega, ⟨fun i hi => by omega⟩, ⟨Below.refl _ _⟩⟩
  case round =>
   obtain ⟨j, rfl, hj, HE, HW⟩ := hrel
   by_cases hlt : j < l.length
   ·obtain ⟨pa, pA2, pc2, pA3, pc3, pA4, pc4, rfl, pK, px0, px1, px2, px3, px4⟩ := FuncI_at (Kd.C_below HR.out HW.out) j hlt
    have pK2 := Aside0.mk pK; clear pK
    obtain ⟨qa, qA2, qc2, qA3, qc3, qA4, qc4, rfl, qK, qx0, qx1, qx2, qx3, qx4⟩ := FuncI_at (Kd.C_below HR2.out HW.out) j (by have := HL.out; omega)
    have qK2 := Aside0.mk qK; clear qK
    have i1 : (0 : Int) ≤ (j : Int) := by omega
    have i2 : (j : Int) < (l.length : Int) := by omega
    have i3 : (j : Int) < (m.length : Int) := by have := HL.out; omega
    by_cases he : el zFunc l j = el zFunc m j
    ·have b2 : decide (el zFunc l j = el zFunc m j) = true := decide_eq_true he
     have HE2 := Aside0.mk he
     clear he
     go_wp2
     have HS : Aside0 (∀ W : World, Below wr.heap.size wr W → W.cell? (pa.add (j * 5)) = some (.int .i64 (el zFunc l j).params) ∧ W.cell? ⟨(pa.add (j * 5)).block, (pa.add (j * 5)).off + 1, none⟩ = some (.int .i64 (el zFunc l j).regs) ∧ W.cell? ⟨(pa.add (j * 5)).block, (pa.add (j * 5)).off + 2, none⟩ = some (.slice pA2 (el zFunc l j).caps.length pc2) ∧ W.cell? ⟨(pa.add (j * 5)).block, (pa.add (j * 5)).off + 3, none⟩ = some (.slice pA3 (el zFunc l j).code.length pc3) ∧ W.cell? ⟨(pa.add (j * 5)).block, (pa.add (j * 5)).off + 4, none⟩ = some (.slice pA4 (el zFunc l j).handlers.length pc4) ∧ W.cell? (qa.add (j * 5)) = some (.int .i64 (el zFunc m j).params) ∧ W.cell? ⟨(qa.add (j * 5)).block, (qa.add (j * 5)).off + 1, none⟩ = some (.int .i64 (el zFunc m j).regs) ∧ W.cell? ⟨(qa.add (j * 5)).block, (qa.add (j * 5)).off + 2, none⟩ = some (.slice qA2 (el zFunc m j).caps.length qc2) ∧ W.cell? ⟨(qa.add (j * 5)).block, (qa.add (j * 5)).off + 3, none⟩ = some (.slice qA3 (el zFunc m j).code.length qc3) ∧ W.cell? ⟨(qa.add (j * 5)).block, (qa.add (j * 5)).off + 4, none⟩ = some (.slice qA4 (el zFunc m j).handlers.length qc4)) := ⟨fun W hB => ⟨pw_cell_below hB px0, pw_cell_below hB px1, pw_cell_below hB px2, pw_cell_below hB px3, pw_cell_below hB px4, pw_cell_below hB qx0, pw_cell_below hB qx1, pw_cell_below hB qx2, pw_cell_below hB qx3, pw_cell_below hB qx4⟩⟩
     go_region_held3 (fun W => W.cell? (pa.add (j * 5)) = some (.int .i64 (el zFunc l j).params) ∧ W.cell? ⟨(pa.add (j * 5)).block, (pa.add (j * 5)).off + 1, none⟩ = some (.int .i64 (el zFunc l j).regs) ∧ W.cell? ⟨(pa.add (j * 5)).block, (pa.add (j * 5)).off + 2, none⟩ = some (.slice pA2 (el zFunc l j).caps.length pc2) ∧ W.cell? ⟨(pa.add (j * 5)).block, (pa.add (j * 5)).off + 3, none⟩ = some (.slice pA3 (el zFunc l j).code.length pc3) ∧ W.cell? ⟨(pa.add (j * 5)).block, (pa.add (j * 5)).off + 4, none⟩ = some (.slice pA4 (el zFunc l j).handlers.length pc4) ∧ W.cell? (qa.add (j * 5)) = some (.int .i64 (el zFunc m j).params) ∧ W.cell? ⟨(qa.add (j * 5)).block, (qa.add (j * 5)).off + 1, none⟩ = some (.int .i64 (el zFunc m j).regs) ∧ W.cell? ⟨(qa.add (j * 5)).block, (qa.add (j * 5)).off + 2, none⟩ = some (.slice qA2 (el zFunc m j).caps.length qc2) ∧ W.cell? ⟨(qa.add (j * 5)).block, (qa.add (j * 5)).off + 3, none⟩ = some (.slice qA3 (el zFunc m j).code.length qc3) ∧ W.cell? ⟨(qa.add (j * 5)).block, (qa.add (j * 5)).off + 4, none⟩ = some (.slice qA4 (el zFunc m j).handlers.length qc4)) (first | exact HS.out _ (below_step (below_drew1 (Below.refl _ _)) hb) | exact HS.out _ (below_drew1 (Below.refl _ _))) (first | (go_at_call 104; refine (eqFunc (el zFunc l j) (el zFunc m j) _ _ _ ?s1 ?s2).mono ?_; (case s1 => exact Kd.K_drew0 pK2.out); (case s2 => exact Kd.K_drew0 qK2.out); rintro e w1 ⟨rfl, hb⟩))
     go_wp2
     go_roundw
     case rel => exact ⟨j + 1, by go_num, by omega, ⟨fun i hi => by rcases Nat.lt_succ_iff_lt_or_eq.1 hi with h | h; exact HE.out i h; rw [h]; exact HE2.out⟩, ⟨below_step (below_drew1 HW.out) hb⟩⟩
     case measure => simp [intOf]; omega
    ·have b2 : decide (el zFunc l j = el zFunc m j) = false := decide_eq_false he
     have HE2 := Aside0.mk he
     clear he
     go_wp2
     have HS : Aside0 (∀ W : World, Below wr.heap.size wr W → W.cell? (pa.add (j * 5)) = some (.int .i64 (el zFunc l j).params) ∧ W.cell? ⟨(pa.add (j * 5)).block, (pa.add (j * 5)).off + 1, none⟩ = some (.int .i64 (el zFunc l j).regs) ∧ W.cell? ⟨(pa.add (j * 5)).block, (pa.add (j * 5)).off + 2, none⟩ = some (.slice pA2 (el zFunc l j).caps.length pc2) ∧ W.cell? ⟨(pa.add (j * 5)).block, (pa.add (j * 5)).off + 3, none⟩ = some (.slice pA3 (el zFunc l j).code.length pc3) ∧ W.cell? ⟨(pa.add (j * 5)).block, (pa.add (j * 5)).off + 4, none⟩ = some (.slice pA4 (el zFunc l j).handlers.length pc4) ∧ W.cell? (qa.add (j * 5)) = some (.int .i64 (el zFunc m j).params) ∧ W.cell? ⟨(qa.add (j * 5)).block, (qa.add (j * 5)).off + 1, none⟩ = some (.int .i64 (el zFunc m j).regs) ∧ W.cell? ⟨(qa.add (j * 5)).block, (qa.add (j * 5)).off + 2, none⟩ = some (.slice qA2 (el zFunc m j).caps.length qc2) ∧ W.cell? ⟨(qa.add (j * 5)).block, (qa.add (j * 5)).off + 3, none⟩ = some (.slice qA3 (el zFunc m j).code.length qc3) ∧ W.cell? ⟨(qa.add (j * 5)).block, (qa.add (j * 5)).off + 4, none⟩ = some (.slice qA4 (el zFunc m j).handlers.length qc4)) := ⟨fun W hB => ⟨pw_cell_below hB px0, pw_cell_below hB px1, pw_cell_below hB px2, pw_cell_below hB px3, pw_cell_below hB px4, pw_cell_below hB qx0, pw_cell_below hB qx1, pw_cell_below hB qx2, pw_cell_below hB qx3, pw_cell_below hB qx4⟩⟩
     go_region_held3 (fun W => W.cell? (pa.add (j * 5)) = some (.int .i64 (el zFunc l j).params) ∧ W.cell? ⟨(pa.add (j * 5)).block, (pa.add (j * 5)).off + 1, none⟩ = some (.int .i64 (el zFunc l j).regs) ∧ W.cell? ⟨(pa.add (j * 5)).block, (pa.add (j * 5)).off + 2, none⟩ = some (.slice pA2 (el zFunc l j).caps.length pc2) ∧ W.cell? ⟨(pa.add (j * 5)).block, (pa.add (j * 5)).off + 3, none⟩ = some (.slice pA3 (el zFunc l j).code.length pc3) ∧ W.cell? ⟨(pa.add (j * 5)).block, (pa.add (j * 5)).off + 4, none⟩ = some (.slice pA4 (el zFunc l j).handlers.length pc4) ∧ W.cell? (qa.add (j * 5)) = some (.int .i64 (el zFunc m j).params) ∧ W.cell? ⟨(qa.add (j * 5)).block, (qa.add (j * 5)).off + 1, none⟩ = some (.int .i64 (el zFunc m j).regs) ∧ W.cell? ⟨(qa.add (j * 5)).block, (qa.add (j * 5)).off + 2, none⟩ = some (.slice qA2 (el zFunc m j).caps.length qc2) ∧ W.cell? ⟨(qa.add (j * 5)).block, (qa.add (j * 5)).off + 3, none⟩ = some (.slice qA3 (el zFunc m j).code.length qc3) ∧ W.cell? ⟨(qa.add (j * 5)).block, (qa.add (j * 5)).off + 4, none⟩ = some (.slice qA4 (el zFunc m j).handlers.length qc4)) (first | exact HS.out _ (below_step (below_drew1 (Below.refl _ _)) hb) | exact HS.out _ (below_drew1 (Below.refl _ _))) (first | (go_at_call 104; refine (eqFunc (el zFunc l j) (el zFunc m j) _ _ _ ?s1 ?s2).mono ?_; (case s1 => exact Kd.K_drew0 pK2.out); (case s2 => exact Kd.K_drew0 qK2.out); rintro e w1 ⟨rfl, hb⟩))
     go_wp2
     go_ret
     exact ⟨by rw [decide_eq_false (fun h => HE2.out (by rw [h]))]; rfl, below_step (below_drew1 HW.out) hb⟩
   ·go_wp2
    go_ret
    exact ⟨by rw [decide_eq_true (el_ext zFunc HL.out (fun i hi => HE.out i (by omega)))]; rfl, HW.out⟩
 ·have b1 : ((l.length : Int) != (m.length : Int)) = true := by simp; omega
  have HL := Aside0.mk hlen
  clear hr hr2 hlen
  go_enter Try.func62, Try.ntmps62
  go_wp2
  go_ret
  exact ⟨by rw [decide_eq_false (fun h => HL.out (by rw [h]))]; rfl, Below.refl _ _⟩
set_option maxHeartbeats 4000000 in
set_option maxRecDepth 100000 in
theorem eqImage (x y : Image) (cs ds : List Value) (w : World) (hk : kImageI.K w x cs) (hk2 : kImageI.K w y ds) :
  Calls Try.prog 19 #[.agg ⟨cs⟩, .agg ⟨ds⟩] w fun e w' => e = .returned (.bool (decide (x = y))) ∧ Below w.heap.size w w' := by
 obtain ⟨pA0, pc0, pA1, pc1, rfl, pl0, pg0, pl1, pg1⟩ := kImageI_open hk
 have pG0 := Aside0.mk pg0; have pL0 := Aside0.mk pl0; clear pg0 pl0
 have pG1 := Aside0.mk pg1; have pL1 := Aside0.mk pl1; clear pg1 pl1
 obtain ⟨qA0, qc0, qA1, qc1, rfl, ql0, qg0, ql1, qg1⟩ := kImageI_open hk2
 have qG0 := Aside0.mk qg0; have qL0 := Aside0.mk ql0; clear qg0 ql0
 have qG1 := Aside0.mk qg1; have qL1 := Aside0.mk ql1; clear qg1 ql1
 clear hk hk2
 have hu := Try.underlying37
 have A0 := Aside0.mk (((At.start w).alloc #[.slice pA0 x.funcs.length pc0, .slice pA1 x.consts.length pc1] 37).alloc #[.slice qA0 y.funcs.length qc0, .slice qA1 y.consts.length qc1] 37)
 rw [show (w.alloc (.cells #[.slice pA0 x.funcs.length pc0, .slice pA1 x.consts.length pc1] 37)).heap.size = w.heap.size + 1 by simp] at A0
 by_cases h0 : x.funcs = y.funcs
 ·skip
  have d0 : decide (x.funcs = y.funcs) = true := decide_eq_true h0
  by_cases h1 : x.consts = y.consts
  ·skip
   have d1 : decide (x.consts = y.consts) = true := decide_eq_true h1
   have hfin : decide (x = y) = true := decide_eq_true (by cases x; cases y; simp_all)
   have HF := Aside0.mk hfin
   clear hfin
   clear h0
   clear h1
   go_enter Try.func19, Try.ntmps19
   go_wp2_with fail
   refine (eqFuncS _ _ _ _ _ _ _ (A0.out.reads pG0.out) (A0.out.reads qG0.out)).mono ?_
   rintro e w1 ⟨rfl, hb0⟩
   have hb := hb0
   have A1 := Aside0.mk (A0.out.step hb)
   clear hb hb0 A0
   have z0 := A1.out.cell1; have z1 := A1.out.cell0
   go_wp2_with fail
   refine (eqConstS _ _ _ _ _ _ _ (A1.out.reads pG1.out) (A1.out.reads qG1.out)).mono ?_
   rintro e w2 ⟨rfl, hb0⟩
   have hb := hb0
   have A2 := Aside0.mk (A1.out.step hb)
   clear hb hb0 A1 z0 z1
   have z0 := A2.out.cell1; have z1 := A2.out.cell0
   go_wp2
   go_ret
   exact ⟨by rw [HF.out]; rfl, A2.out.below⟩
  ·skip
   have d1 : decide (x.consts = y.consts) = false := decide_eq_false h1
   have hfin : decide (x = y) = false := decide_eq_false (fun e => h1 (by rw [e]))
   have HF := Aside0.mk hfin
   clear hfin
   clear h0
   clear h1
   go_enter Try.func19, Try.ntmps19
   go_wp2_with fail
   refine (eqFuncS _ _ _ _ _ _ _ (A0.out.reads pG0.out) (A0.out.reads qG0.out)).mono ?_
   rintro e w1 ⟨rfl, hb0⟩
   have hb := hb0
   have A1 := Aside0.mk (A0.out.step hb)
   clear hb hb0 A0
   have z0 := A1.out.cell1; have z1 := A1.out.cell0
   go_wp2_with fail
   refine (eqConstS _ _ _ _ _ _ _ (A1.out.reads pG1.out) (A1.out.reads qG1.out)).mono ?_
   rintro e w2 ⟨rfl, hb0⟩
   have hb := hb0
   have A2 := Aside0.mk (A1.out.step hb)
   clear hb hb0 A1 z0 z1
   have z0 := A2.out.cell1; have z1 := A2.out.cell0
   go_wp2
   go_ret
   exact ⟨by rw [HF.out]; rfl, A2.out.below⟩
 ·skip
  have d0 : decide (x.funcs = y.funcs) = false := decide_eq_false h0
  have hfin : decide (x = y) = false := decide_eq_false (fun e => h0 (by rw [e]))
  have HF := Aside0.mk hfin
  clear hfin
  clear h0
  go_enter Try.func19, Try.ntmps19
  go_wp2_with fail
  refine (eqFuncS _ _ _ _ _ _ _ (A0.out.reads pG0.out) (A0.out.reads qG0.out)).mono ?_
  rintro e w1 ⟨rfl, hb0⟩
  have hb := hb0
  have A1 := Aside0.mk (A0.out.step hb)
  clear hb hb0 A0
  have z0 := A1.out.cell1; have z1 := A1.out.cell0
  go_wp2
  go_ret
  exact ⟨by rw [HF.out]; rfl, A1.out.below⟩
end Go.Proofs.Ytcbaokflimdjnaa
end
section
namespace Go.Proofs.Ytcbaokflimdjnaa
open Go.RowKit Go.Proofs.YtcbaokflimdjnaaW.PrintWords Go.Proofs.YtcbaokflimdjnaaW.PrintMore Go.Proofs.Ytcbaokflimdjnaa.Law Go.Proofs.Ytcbaokflimdjnaa.Num
theorem el_set_ne {α : Type} {z x : α} {l : List α} {i j : Nat} (h : i ≠ j) : el z (l.set j x) i = el z l i := by simp [el, List.getElem?_set, Ne.symm h]
theorem el_set_eq {α : Type} {z x : α} {l : List α} {j : Nat} (h : j < l.length) : el z (l.set j x) j = x := by simp [el, h]
def LenFunc (x : Func) : Prop := x.caps.length ≤ 1048576 ∧ x.code.length ≤ 1048576 ∧ x.handlers.length ≤ 1048576
def LenImage (x : Image) : Prop := x.funcs.length ≤ 1048576 ∧ (∀ y ∈ x.funcs, LenFunc y) ∧ x.consts.length ≤ 1048576
end Go.Proofs.Ytcbaokflimdjnaa
end
section
namespace Go.Proofs.Ytcbaokflimdjnaa.QFnExactVerify
open Go.RowKit Go.Proofs.YtcbaokflimdjnaaW.PrintWords Go.Proofs.YtcbaokflimdjnaaW.PrintLast Go.Proofs.YtcbaokflimdjnaaW.PrintMore
attribute [local go_sem] max_two min_two max_three min_three max_four min_four max2_mx min2_mn   -- for this text's walks alone
def laws_markText.l0 : Nat → Int → ByteArray → Option (ByteArray)
 | 0, _, _ => none
 | k + 1, x0, x3 => if x0 > 0 then ((some (([(wrap64 (48 + (Int.tmod x0 10))) % 256] : List Int) : List Int)).bind fun y375 => (if (strOfNums y375).size + x3.size ≤ 9223372036854775807 then (laws_markText.l0 k (wrap64 (Int.tdiv x0 10)) ((strOfNums y375) ++ x3)) else (none))) else (if 1 + x3.size ≤ 9223372036854775807 then (some ((⟨#[109]⟩ : ByteArray) ++ x3)) else (none))
def laws_markText.f (k : Nat) (a0 : Int) : Option (ByteArray) := if a0 ≤ 0 then (some (⟨#[109, 48]⟩ : ByteArray)) else (laws_markText.l0 k a0 (⟨#[]⟩ : ByteArray))
set_option maxHeartbeats 8000000 in
set_option maxRecDepth 100000 in
theorem laws_markText.calls (k : Nat) (a0 : Int) (r : ByteArray) (w : World) (h : laws_markText.f k a0 = some r) :
  Calls Try.prog 109 #[.int .i64 a0] w fun e w' => e = .returned (.string r) ∧ Below w.heap.size w w' := by
 have HB := Aside0.mk (Below.refl w.heap.size w)
 have H : (if a0 ≤ 0 then (some (⟨#[109, 48]⟩ : ByteArray)) else (laws_markText.l0 k a0 (⟨#[]⟩ : ByteArray))) = some r := h
 clear h
 by_cases c2 : a0 ≤ 0
 ·rw [if_pos c2] at H
  have c2b0 : decide (a0 ≤ 0) = true := decide_eq_true c2
  clear c2
  obtain rfl := Option.some.inj H
  go_enter Try.func109, Try.ntmps109
  go_wp2
  go_ret
  exact ⟨by first | rfl | (simp; done) | (simp [errW_none, errW_some] <;> rfl) | (simp [*, errW_none, errW_some] <;> rfl) | (simp [bne, List.isEmpty_iff]; done) | (rw [Bool.eq_iff_iff]; simp), by repeat (first | (with_reducible first | exact HB.out | apply below_alloc | apply pw_below_drewN | apply below_drew1) | exact HB.out)⟩
 ·rw [if_neg c2] at H
  have c2b0 : decide (a0 ≤ 0) = false := decide_eq_false c2
  clear c2
  have H' := Aside0.mk H
  clear H
  go_enter Try.func109, Try.ntmps109
  go_wp2
  go_loopg [0, 3] k (fun kq v0 v3 w' => ∃ (x0_1 : Int) (x3_1 : ByteArray), v0 = .int .i64 x0_1 ∧ v3 = .string x3_1 ∧ Aside0 (laws_markText.l0 kq x0_1 x3_1 = some r) ∧ Aside0 (kq ≤ k) ∧ Aside0 (Below w.heap.size w w'))
  case atStart => exact ⟨(a0), ((⟨#[]⟩ : ByteArray)), (by first | rfl | (simp; done) | (simp [*]; done)), (by first | rfl | (simp; done) | (simp [*]; done)), H', ⟨Nat.le_refl _⟩, ⟨by repeat (first | (with_reducible first | exact HB.out | apply below_alloc | apply pw_below_drewN | apply below_drew1) | exact HB.out)⟩⟩
  case round =>
   clear H'
   try clear c1
   try clear c2
   try clear c2b0
   try clear p2
   obtain ⟨x0_1, x3_1, rfl, rfl, HA, HK1, HB⟩ := hrel
   cases gk with
   | zero => exact absurd HA.out (by simp [laws_markText.l0])
   | succ k1 =>
    have H := HA.out
    clear HA
    simp only [laws_markText.l0] at H
    by_cases c3 : x0_1 > 0
    ·rw [if_pos c3] at H
     have c3b0 : decide (0 < x0_1) = true := decide_eq_true c3
     clear c3
     obtain ⟨y375, hy375⟩ : ∃ y_ : List Int, y_ = (([(wrap64 (48 + (Int.tmod x0_1 10))) % 256] : List Int)) := ⟨_, rfl⟩
     replace H : (if (strOfNums y375).size + x3_1.size ≤ 9223372036854775807 then (laws_markText.l0 k1 (wrap64 (Int.tdiv x0_1 10)) ((strOfNums y375) ++ x3_1)) else (none)) = some r := by first | (rw [hy375]; with_reducible exact H) | (have H2_ := (Option.bind_some _ _).symm.trans H; rw [hy375]; with_reducible exact H2_) | (have H2_ := (Option.bind_some _ _).symm.trans H; with_reducible exact H2_) | with_reducible exact H | (rw [hy375]; exact H) | exact H
     have Ny375 := Aside0.mk hy375
     clear hy375
     by_cases c4 : (strOfNums y375).size + x3_1.size ≤ 9223372036854775807
     ·rw [if_pos c4] at H
      have c4b0 := eq_true c4
      have c4b1 : decide ((strOfNums y375).size + x3_1.size ≤ 9223372036854775807) = true := decide_eq_true c4
      try have c4b2 : (9223372036854775807 < (strOfNums y375).size + x3_1.size) = False := eq_false (Nat.not_lt.2 c4)
      have H' := Aside0.mk H
      clear H
      go_wp2_with (first | ((with_reducible refine gate_dst (N := 12) rfl ?_); refine Kd.R_lit (Kd.int .u8) _ 5 ?hg (N := 12) ?hd (xs := ([(wrap64 (48 + (Int.tmod x0_1 10))) % 256] : List Int)) (inner := [.int .u8 ((wrap64 (48 + (Int.tmod x0_1 10))) % 256)]) (ok := fun _ => True) (okp := fun _ => True) ?hr ?hp (fun _ hk => hk) trivial (Below.refl _ _) (Nat.le_refl _) (by simp) ?_; (case hd => rfl); (case hg => rfl); (case hr => first | (go_simp; done) | (go_simp; rfl)); (case hp => exact (Reps.one (show Kd.M (Kd.int .u8) _ _ _ ((wrap64 (48 + (Int.tmod x0_1 10))) % 256) [.int .u8 ((wrap64 (48 + (Int.tmod x0_1 10))) % 256)] from rfl) (Reps.none _ _))); intro v376 w5 ho6 hb hg_ hnew_; clear hg_ hnew_; (first | rw [← Ny375.out] at ho6 | (simp only [Int.reduceToNat] at ho6; rw [← Ny375.out] at ho6)); have n0_ := Aside0.mk (Kd.R_lower ho6 (below_size (by repeat (first | (with_reducible first | exact HB.out | apply below_alloc | apply pw_below_drewN | apply below_drew1) | exact HB.out)))); have n1_ := Aside0.mk (below_step (by repeat (first | (with_reducible first | exact HB.out | apply below_alloc | apply pw_below_drewN | apply below_drew1) | exact HB.out)) hb); clear HB; have HO377 := n0_; have HB := n1_; clear n0_ n1_; clear hb ho6; have hcv7 := own_string (P := Try.prog) Try.underlying96 Try.underlying5 Try.underlying9 (Kd.own_of_R HO377.out)))
      go_roundg k1
      case measure => have := HK1.out; omega
      case rel => exact ⟨(wrap64 (Int.tdiv x0_1 10)), ((strOfNums y375) ++ x3_1), (by first | rfl | (simp; done) | (simp [*]; done)), (by first | rfl | (simp; done) | (simp [*]; done)), H', ⟨by have := HK1.out; omega⟩, ⟨by repeat (first | (with_reducible first | exact HB.out | apply below_alloc | apply pw_below_drewN | apply below_drew1) | exact HB.out)⟩⟩
     ·rw [if_neg c4] at H
      exact absurd H (by simp)
    ·rw [if_neg c3] at H
     have c3b0 : decide (0 < x0_1) = false := decide_eq_false c3
     clear c3
     by_cases c8 : 1 + x3_1.size ≤ 9223372036854775807
     ·rw [if_pos c8] at H
      have c8b0 := eq_true c8
      have c8b1 : decide (1 + x3_1.size ≤ 9223372036854775807) = true := decide_eq_true c8
      try have c8b2 : (9223372036854775807 < 1 + x3_1.size) = False := eq_false (Nat.not_lt.2 c8)
      obtain rfl := Option.some.inj H
      go_wp2
      go_ret
      exact ⟨by first | rfl | (simp; done) | (simp [errW_none, errW_some] <;> rfl) | (simp [*, errW_none, errW_some] <;> rfl) | (simp [bne, List.isEmpty_iff]; done) | (rw [Bool.eq_iff_iff]; simp), by repeat (first | (with_reducible first | exact HB.out | apply below_alloc | apply pw_below_drewN | apply below_drew1) | exact HB.out)⟩
     ·rw [if_neg c8] at H
      exact absurd H (by simp)
end Go.Proofs.Ytcbaokflimdjnaa.QFnExactVerify
end
section
namespace Go.Proofs.Ytcbaokflimdjnaa
open Go.RowKit Go.Proofs.YtcbaokflimdjnaaW.PrintWords Go.Proofs.YtcbaokflimdjnaaW.PrintMore Go.Proofs.Ytcbaokflimdjnaa.Law Go.Proofs.Ytcbaokflimdjnaa.Num Go.Proofs.Ytcbaokflimdjnaa.QFnExactVerify
theorem nums_size (v : Int) : (strOfNums [v]).size = 1 := rfl
theorem text_some : ∀ (n : Nat) (x : Int) (s : ByteArray), 0 ≤ x → x < 10 ^ n → x < 9223372036854775808 → s.size + n ≤ 1000 → ∃ r, laws_markText.l0 (n + 1) x s = some r
 | 0, x, s, h0, h1, hb, hs => by
  unfold laws_markText.l0
  rw [if_neg (by simp at h1; omega), if_pos (by omega)]
  exact ⟨_, rfl⟩
 | n + 1, x, s, h0, h1, hb, hs => by
  unfold laws_markText.l0
  by_cases hx : x > 0
  ·rw [if_pos hx, Option.bind_some, if_pos (by rw [nums_size]; omega)]
   have hp : (10 : Int) ^ (n + 1) = 10 * 10 ^ n := by rw [Int.pow_succ, Int.mul_comm]
   have e : Int.tdiv x 10 = x / 10 := Int.tdiv_eq_ediv_of_nonneg h0
   rw [e, wrap64_id (by omega) (by omega)]
   exact text_some n (x / 10) _ (by omega) (by omega) (by omega) (by rw [ByteArray.size_append, nums_size]; omega)
  ·rw [if_neg hx, if_pos (by omega)]
   exact ⟨_, rfl⟩
def mkText (k : Int) : ByteArray := (laws_markText.f 31 k).getD ByteArray.empty
theorem text_ok {k : Int} (h0 : 0 ≤ k) (h1 : k < 9223372036854775808) : laws_markText.f 31 k = some (mkText k) := by
 have h : ∃ r, laws_markText.f 31 k = some r := by
  unfold laws_markText.f
  split
  ·exact ⟨_, rfl⟩
  ·exact text_some 30 k _ h0 (by omega) h1 (by decide)
 obtain ⟨r, hr⟩ := h
 unfold mkText
 rw [hr]
 rfl
def mkCap (k : Int) : Cap := ⟨(k % 3 == 0), (k + 1)⟩
def mkCapS (k : Int) (n : Nat) : List Cap := (List.range n).map (fun (i : Nat) => mkCap (k + 2 * (i : Int)))
theorem mkCapS_len (k : Int) (n : Nat) : (mkCapS k n).length = n := by simp [mkCapS]
theorem el_mkCapS (k : Int) {n j : Nat} (h : j < n) : el zCap (mkCapS k n) j = mkCap (k + 2 * (j : Int)) := by simp [el, mkCapS, h]
set_option maxHeartbeats 4000000 in
set_option maxRecDepth 100000 in
theorem markCapS (v1 : Value) (l : List Cap) (k : Int) (w0 w : World) (lo : Nat) (ok : Nat → Prop) (hB : Below w0.heap.size w0 w) (hlo : w0.heap.size ≤ lo) (hr : kCap.R 105 w lo ok v1 l) (h0 : 0 ≤ k) (h1 : k + 2 * l.length ≤ 4611686018427387904) :
  Calls Try.prog 106 #[v1, .int .i64 k] w fun e w' => e = .returned (.int .i64 (k + 2 * (l.length : Int))) ∧ kCap.R 105 w' lo ok v1 (mkCapS k l.length) ∧ Below w0.heap.size w0 w' ∧ Kept w w' ok := by
 have HB := Aside0.mk hB
 have HO := Aside0.mk hr
 have HK := Aside0.mk (Kept.refl w ok)
 have HOK := Aside0.mk hr.1
 have hu := Try.underlying105
 obtain ⟨A, c, rfl⟩ := Kd.R_slice hr
 have hll : l.length ≤ 9223372036854775807 := by omega
 clear hB hr
 go_enter Try.func106, Try.ntmps106
 go_wp2
 go_loopw [1, 5] (fun u v wr => ∃ (j : Nat) (kk : Int) (xs : List Cap), u = .int .i64 kk ∧ v = .int .i64 j ∧ Aside0 (kk = k + 2 * (j : Int)) ∧ j ≤ l.length ∧ xs.length = l.length ∧ Aside0 (∀ i : Nat, i < j → el zCap xs i = el zCap (mkCapS k l.length) i) ∧ Aside0 (kCap.R 105 wr lo ok (.slice A l.length c) xs) ∧ Aside0 (Below w0.heap.size w0 wr) ∧ Aside0 (Kept w wr ok)) (fun u v _ => l.length - (intOf v).toNat)
 case atStart => exact ⟨0, k, _, rfl, rfl, ⟨by simp⟩, by omega, rfl, ⟨fun i hi => by omega⟩, HO, HB, HK⟩
 case round =>
  clear HO HB HK
  obtain ⟨j, kk, xs, rfl, rfl, HKK, hj, hn, HE, HO, HB, HK⟩ := hrel
  have hkk : 0 ≤ kk ∧ kk ≤ 4611686018427387904 := by have := HKK.out; omega
  by_cases hlt : j < l.length
  ·have hb2 : (j : Int) < (l.length : Int) := by omega
   obtain ⟨go, co, hv, gb, gl, cl0, HG0⟩ := Kd.R_form HO.out (by omega)
   rw [hn] at hv
   have hg : ok go := HOK.out go (by rw [hv]; simp [Value.ownBlock])
   injection hv with hA _ hc
   subst hA; subst hc; clear HG0
   obtain ⟨ce, hcl, hM, hcc, hfr⟩ := Kd.R_elem HO.out zCap (j : Int) (by omega) (by omega)
   have hce := kCap_openM hM; subst hce
   rw [Int.toNat_natCast] at hcc hfr
   have y0 := hcc 0 _ rfl; replace y0 : wr.cell? ⟨go, j * 2, none⟩ = _ := y0; have f0 := hfr 0; replace f0 : wr.frozen? ⟨go, j * 2, none⟩ = false := f0
   have y1 := hcc 1 _ rfl; replace y1 : wr.cell? ⟨go, j * 2 + 1, none⟩ = _ := y1; have f1 := hfr 1; replace f1 : wr.frozen? ⟨go, j * 2 + 1, none⟩ = false := f1
   have HP := Aside0.mk (Kd.R_seg HO.out (j : Int) (by omega) (by omega) (seg := [.bool (kk % 3 == 0), .int .i64 (kk + 1)]) (j := 0) hcl (by rw [Int.toNat_natCast]; exact hcc) (show 2 ≤ 2 from by decide) (x' := mkCap kk) (kCap_mkM _ _ _ (mkCap kk)) (fun _ hk => hk)).1
   have GB := Aside0.mk gb; have GK := Aside0.mk hg
   clear gb gl hcl hcc hfr hM hg
   go_wp2
   go_roundw
   case measure => simp [intOf]; omega
   case rel => exact ⟨j + 1, kk + 2, _, by first | rfl | (simp [Int.add_assoc]; done) | go_num, by go_num, ⟨by have := HKK.out; omega⟩, by omega, by simpa using hn, ⟨fun i hi => by rcases Nat.lt_succ_iff_lt_or_eq.1 hi with h | h; (rw [el_set_ne (by omega)]; exact HE.out i h); subst h; rw [el_mkCapS k hlt, ← HKK.out]; exact el_set_eq (by omega)⟩, HP, ⟨below_set (below_set (HB.out) (Nat.le_trans hlo GB.out)) (Nat.le_trans hlo GB.out)⟩, ⟨Kept.setCell (Kept.setCell (HK.out) (.inl GK.out) _) (.inl GK.out) _⟩⟩
  ·have hb2 : ¬ (j : Int) < (l.length : Int) := by omega
   have hj2 : j = l.length := by omega
   have he : xs = mkCapS k l.length := el_ext zCap (by rw [hn, mkCapS_len]) (fun i hi => HE.out i (by omega))
   subst he
   have hke := HKK.out
   rw [hj2] at hke
   subst hke
   go_wp2
   go_ret
   exact ⟨rfl, HO.out, HB.out, HK.out⟩
def mkIns (k : Int) : Ins := ⟨k, (k + 1), (k + 1 + 1)⟩
def mkInsS (k : Int) (n : Nat) : List Ins := (List.range n).map (fun (i : Nat) => mkIns (k + 3 * (i : Int)))
theorem mkInsS_len (k : Int) (n : Nat) : (mkInsS k n).length = n := by simp [mkInsS]
theorem el_mkInsS (k : Int) {n j : Nat} (h : j < n) : el zIns (mkInsS k n) j = mkIns (k + 3 * (j : Int)) := by simp [el, mkInsS, h]
set_option maxHeartbeats 4000000 in
set_option maxRecDepth 100000 in
theorem markInsS (v1 : Value) (l : List Ins) (k : Int) (w0 w : World) (lo : Nat) (ok : Nat → Prop) (hB : Below w0.heap.size w0 w) (hlo : w0.heap.size ≤ lo) (hr : kIns.R 76 w lo ok v1 l) (h0 : 0 ≤ k) (h1 : k + 3 * l.length ≤ 4611686018427387904) :
  Calls Try.prog 107 #[v1, .int .i64 k] w fun e w' => e = .returned (.int .i64 (k + 3 * (l.length : Int))) ∧ kIns.R 76 w' lo ok v1 (mkInsS k l.length) ∧ Below w0.heap.size w0 w' ∧ Kept w w' ok := by
 have HB := Aside0.mk hB
 have HO := Aside0.mk hr
 have HK := Aside0.mk (Kept.refl w ok)
 have HOK := Aside0.mk hr.1
 have hu := Try.underlying76
 obtain ⟨A, c, rfl⟩ := Kd.R_slice hr
 have hll : l.length ≤ 9223372036854775807 := by omega
 clear hB hr
 go_enter Try.func107, Try.ntmps107
 go_wp2
 go_loopw [1, 5] (fun u v wr => ∃ (j : Nat) (kk : Int) (xs : List Ins), u = .int .i64 kk ∧ v = .int .i64 j ∧ Aside0 (kk = k + 3 * (j : Int)) ∧ j ≤ l.length ∧ xs.length = l.length ∧ Aside0 (∀ i : Nat, i < j → el zIns xs i = el zIns (mkInsS k l.length) i) ∧ Aside0 (kIns.R 76 wr lo ok (.slice A l.length c) xs) ∧ Aside0 (Below w0.heap.size w0 wr) ∧ Aside0 (Kept w wr ok)) (fun u v _ => l.length - (intOf v).toNat)
 case atStart => exact ⟨0, k, _, rfl, rfl, ⟨by simp⟩, by omega, rfl, ⟨fun i hi => by omega⟩, HO, HB, HK⟩
 case round =>
  clear HO HB HK
  obtain ⟨j, kk, xs, rfl, rfl, HKK, hj, hn, HE, HO, HB, HK⟩ := hrel
  have hkk : 0 ≤ kk ∧ kk ≤ 4611686018427387904 := by have := HKK.out; omega
  by_cases hlt : j < l.length
  ·have hb2 : (j : Int) < (l.length : Int) := by omega
   obtain ⟨go, co, hv, gb, gl, cl0, HG0⟩ := Kd.R_form HO.out (by omega)
   rw [hn] at hv
   have hg : ok go := HOK.out go (by rw [hv]; simp [Value.ownBlock])
   injection hv with hA _ hc
   subst hA; subst hc; clear HG0
   obtain ⟨ce, hcl, hM, hcc, hfr⟩ := Kd.R_elem HO.out zIns (j : Int) (by omega) (by omega)
   have hce := kIns_openM hM; subst hce
   rw [Int.toNat_natCast] at hcc hfr
   have y0 := hcc 0 _ rfl; replace y0 : wr.cell? ⟨go, j * 3, none⟩ = _ := y0; have f0 := hfr 0; replace f0 : wr.frozen? ⟨go, j * 3, none⟩ = false := f0
   have y1 := hcc 1 _ rfl; replace y1 : wr.cell? ⟨go, j * 3 + 1, none⟩ = _ := y1; have f1 := hfr 1; replace f1 : wr.frozen? ⟨go, j * 3 + 1, none⟩ = false := f1
   have y2 := hcc 2 _ rfl; replace y2 : wr.cell? ⟨go, j * 3 + 2, none⟩ = _ := y2; have f2 := hfr 2; replace f2 : wr.frozen? ⟨go, j * 3 + 2, none⟩ = false := f2
   have HP := Aside0.mk (Kd.R_seg HO.out (j : Int) (by omega) (by omega) (seg := [.int .i64 kk, .int .i64 (kk + 1), .int .i64 (kk + 1 + 1)]) (j := 0) hcl (by rw [Int.toNat_natCast]; exact hcc) (show 3 ≤ 3 from by decide) (x' := mkIns kk) (kIns_mkM _ _ _ (mkIns kk)) (fun _ hk => hk)).1
   have GB := Aside0.mk gb; have GK := Aside0.mk hg
   clear gb gl hcl hcc hfr hM hg
   go_wp2
   go_roundw
   case measure => simp [intOf]; omega
   case rel => exact ⟨j + 1, kk + 3, _, by first | rfl | (simp [Int.add_assoc]; done) | go_num, by go_num, ⟨by have := HKK.out; omega⟩, by omega, by simpa using hn, ⟨fun i hi => by rcases Nat.lt_succ_iff_lt_or_eq.1 hi with h | h; (rw [el_set_ne (by omega)]; exact HE.out i h); subst h; rw [el_mkInsS k hlt, ← HKK.out]; exact el_set_eq (by omega)⟩, HP, ⟨below_set (below_set (below_set (HB.out) (Nat.le_trans hlo GB.out)) (Nat.le_trans hlo GB.out)) (Nat.le_trans hlo GB.out)⟩, ⟨Kept.setCell (Kept.setCell (Kept.setCell (HK.out) (.inl GK.out) _) (.inl GK.out) _) (.inl GK.out) _⟩⟩
  ·have hb2 : ¬ (j : Int) < (l.length : Int) := by omega
   have hj2 : j = l.length := by omega
   have he : xs = mkInsS k l.length := el_ext zIns (by rw [hn, mkInsS_len]) (fun i hi => HE.out i (by omega))
   subst he
   have hke := HKK.out
   rw [hj2] at hke
   subst hke
   go_wp2
   go_ret
   exact ⟨rfl, HO.out, HB.out, HK.out⟩
def mkHandler (k : Int) : Handler := ⟨k, (k + 1), (k + 1 + 1)⟩
def mkHandlerS (k : Int) (n : Nat) : List Handler := (List.range n).map (fun (i : Nat) => mkHandler (k + 3 * (i : Int)))
theorem mkHandlerS_len (k : Int) (n : Nat) : (mkHandlerS k n).length = n := by simp [mkHandlerS]
theorem el_mkHandlerS (k : Int) {n j : Nat} (h : j < n) : el zHandler (mkHandlerS k n) j = mkHandler (k + 3 * (j : Int)) := by simp [el, mkHandlerS, h]
set_option maxHeartbeats 4000000 in
set_option maxRecDepth 100000 in
theorem markHandlerS (v1 : Value) (l : List Handler) (k : Int) (w0 w : World) (lo : Nat) (ok : Nat → Prop) (hB : Below w0.heap.size w0 w) (hlo : w0.heap.size ≤ lo) (hr : kHandler.R 107 w lo ok v1 l) (h0 : 0 ≤ k) (h1 : k + 3 * l.length ≤ 4611686018427387904) :
  Calls Try.prog 108 #[v1, .int .i64 k] w fun e w' => e = .returned (.int .i64 (k + 3 * (l.length : Int))) ∧ kHandler.R 107 w' lo ok v1 (mkHandlerS k l.length) ∧ Below w0.heap.size w0 w' ∧ Kept w w' ok := by
 have HB := Aside0.mk hB
 have HO := Aside0.mk hr
 have HK := Aside0.mk (Kept.refl w ok)
 have HOK := Aside0.mk hr.1
 have hu := Try.underlying107
 obtain ⟨A, c, rfl⟩ := Kd.R_slice hr
 have hll : l.length ≤ 9223372036854775807 := by omega
 clear hB hr
 go_enter Try.func108, Try.ntmps108
 go_wp2
 go_loopw [1, 5] (fun u v wr => ∃ (j : Nat) (kk : Int) (xs : List Handler), u = .int .i64 kk ∧ v = .int .i64 j ∧ Aside0 (kk = k + 3 * (j : Int)) ∧ j ≤ l.length ∧ xs.length = l.length ∧ Aside0 (∀ i : Nat, i < j → el zHandler xs i = el zHandler (mkHandlerS k l.length) i) ∧ Aside0 (kHandler.R 107 wr lo ok (.slice A l.length c) xs) ∧ Aside0 (Below w0.heap.size w0 wr) ∧ Aside0 (Kept w wr ok)) (fun u v _ => l.length - (intOf v).toNat)
 case atStart => exact ⟨0, k, _, rfl, rfl, ⟨by simp⟩, by omega, rfl, ⟨fun i hi => by omega⟩, HO, HB, HK⟩
 case round =>
  clear HO HB HK
  obtain ⟨j, kk, xs, rfl, rfl, HKK, hj, hn, HE, HO, HB, HK⟩ := hrel
  have hkk : 0 ≤ kk ∧ kk ≤ 4611686018427387904 := by have := HKK.out; omega
  by_cases hlt : j < l.length
  ·have hb2 : (j : Int) < (l.length : Int) := by omega
   obtain ⟨go, co, hv, gb, gl, cl0, HG0⟩ := Kd.R_form HO.out (by omega)
   rw [hn] at hv
   have hg : ok go := HOK.out go (by rw [hv]; simp [Value.ownBlock])
   injection hv with hA _ hc
   subst hA; subst hc; clear HG0
   obtain ⟨ce, hcl, hM, hcc, hfr⟩ := Kd.R_elem HO.out zHandler (j : Int) (by omega) (by omega)
   have hce := kHandler_openM hM; subst hce
   rw [Int.toNat_natCast] at hcc hfr
   have y0 := hcc 0 _ rfl; replace y0 : wr.cell? ⟨go, j * 3, none⟩ = _ := y0; have f0 := hfr 0; replace f0 : wr.frozen? ⟨go, j * 3, none⟩ = false := f0
   have y1 := hcc 1 _ rfl; replace y1 : wr.cell? ⟨go, j * 3 + 1, none⟩ = _ := y1; have f1 := hfr 1; replace f1 : wr.frozen? ⟨go, j * 3 + 1, none⟩ = false := f1
   have y2 := hcc 2 _ rfl; replace y2 : wr.cell? ⟨go, j * 3 + 2, none⟩ = _ := y2; have f2 := hfr 2; replace f2 : wr.frozen? ⟨go, j * 3 + 2, none⟩ = false := f2
   have HP := Aside0.mk (Kd.R_seg HO.out (j : Int) (by omega) (by omega) (seg := [.int .i64 kk, .int .i64 (kk + 1), .int .i64 (kk + 1 + 1)]) (j := 0) hcl (by rw [Int.toNat_natCast]; exact hcc) (show 3 ≤ 3 from by decide) (x' := mkHandler kk) (kHandler_mkM _ _ _ (mkHandler kk)) (fun _ hk => hk)).1
   have GB := Aside0.mk gb; have GK := Aside0.mk hg
   clear gb gl hcl hcc hfr hM hg
   go_wp2
   go_roundw
   case measure => simp [intOf]; omega
   case rel => exact ⟨j + 1, kk + 3, _, by first | rfl | (simp [Int.add_assoc]; done) | go_num, by go_num, ⟨by have := HKK.out; omega⟩, by omega, by simpa using hn, ⟨fun i hi => by rcases Nat.lt_succ_iff_lt_or_eq.1 hi with h | h; (rw [el_set_ne (by omega)]; exact HE.out i h); subst h; rw [el_mkHandlerS k hlt, ← HKK.out]; exact el_set_eq (by omega)⟩, HP, ⟨below_set (below_set (below_set (HB.out) (Nat.le_trans hlo GB.out)) (Nat.le_trans hlo GB.out)) (Nat.le_trans hlo GB.out)⟩, ⟨Kept.setCell (Kept.setCell (Kept.setCell (HK.out) (.inl GK.out) _) (.inl GK.out) _) (.inl GK.out) _⟩⟩
  ·have hb2 : ¬ (j : Int) < (l.length : Int) := by omega
   have hj2 : j = l.length := by omega
   have he : xs = mkHandlerS k l.length := el_ext zHandler (by rw [hn, mkHandlerS_len]) (fun i hi => HE.out i (by omega))
   subst he
   have hke := HKK.out
   rw [hj2] at hke
   subst hke
   go_wp2
   go_ret
   exact ⟨rfl, HO.out, HB.out, HK.out⟩
def mkConst (k : Int) : Const := ⟨k, k + 1, mkText (k + 1 + 1)⟩
def mkConstS (k : Int) (n : Nat) : List Const := (List.range n).map (fun (i : Nat) => mkConst (k + 3 * (i : Int)))
theorem mkConstS_len (k : Int) (n : Nat) : (mkConstS k n).length = n := by simp [mkConstS]
theorem el_mkConstS (k : Int) {n j : Nat} (h : j < n) : el zConst (mkConstS k n) j = mkConst (k + 3 * (j : Int)) := by simp [el, mkConstS, h]
set_option maxHeartbeats 4000000 in
set_option maxRecDepth 100000 in
theorem markConstS (v1 : Value) (l : List Const) (k : Int) (w0 w : World) (lo : Nat) (ok : Nat → Prop) (hB : Below w0.heap.size w0 w) (hlo : w0.heap.size ≤ lo) (hr : kConst.R 100 w lo ok v1 l) (h0 : 0 ≤ k) (h1 : k + 3 * l.length ≤ 4611686018427387904) :
  Calls Try.prog 65 #[v1, .int .i64 k] w fun e w' => e = .returned (.int .i64 (k + 3 * (l.length : Int))) ∧ kConst.R 100 w' lo ok v1 (mkConstS k l.length) ∧ Below w0.heap.size w0 w' ∧ Kept w w' ok := by
 have HB := Aside0.mk hB
 have HO := Aside0.mk hr
 have HK := Aside0.mk (Kept.refl w ok)
 have HOK := Aside0.mk hr.1
 have hu := Try.underlying100
 obtain ⟨A, c, rfl⟩ := Kd.R_slice hr
 have hll : l.length ≤ 9223372036854775807 := by omega
 clear hB hr
 go_enter Try.func65, Try.ntmps65
 go_wp2
 go_loopw [1, 5] (fun u v wr => ∃ (j : Nat) (kk : Int) (xs : List Const), u = .int .i64 kk ∧ v = .int .i64 j ∧ Aside0 (kk = k + 3 * (j : Int)) ∧ j ≤ l.length ∧ xs.length = l.length ∧ Aside0 (∀ i : Nat, i < j → el zConst xs i = el zConst (mkConstS k l.length) i) ∧ Aside0 (kConst.R 100 wr lo ok (.slice A l.length c) xs) ∧ Aside0 (Below w0.heap.size w0 wr) ∧ Aside0 (Kept w wr ok)) (fun u v _ => l.length - (intOf v).toNat)
 case atStart => exact ⟨0, k, _, rfl, rfl, ⟨by simp⟩, by omega, rfl, ⟨fun i hi => by omega⟩, HO, HB, HK⟩
 case round =>
  clear HO HB HK
  obtain ⟨j, kk, xs, rfl, rfl, HKK, hj, hn, HE, HO, HB, HK⟩ := hrel
  have hkk : 0 ≤ kk ∧ kk ≤ 4611686018427387904 := by have := HKK.out; omega
  by_cases hlt : j < l.length
  ·have hb2 : (j : Int) < (l.length : Int) := by omega
   have hj0 : (0 : Int) ≤ (j : Int) := by omega
   have hk3 : kk + 3 ≤ 4611686018427387904 := by have := HKK.out; omega
   obtain ⟨go, co, hv, gb, gl, cl0, HG0⟩ := Kd.R_form HO.out (by omega)
   rw [hn] at hv
   have hg : ok go := HOK.out go (by rw [hv]; simp [Value.ownBlock])
   injection hv with hA _ hc
   subst hA; subst hc; clear HG0
   obtain ⟨ce, hcl, hM, hcc, hfr⟩ := Kd.R_elem HO.out zConst (j : Int) (by omega) (by omega)
   have hce := kConst_openM hM; subst hce
   rw [Int.toNat_natCast] at hcc hfr
   have y0 := hcc 0 _ rfl; replace y0 : wr.cell? ⟨go, j * 3, none⟩ = _ := y0; have f0 := hfr 0; replace f0 : wr.frozen? ⟨go, j * 3, none⟩ = false := f0
   have y1 := hcc 1 _ rfl; replace y1 : wr.cell? ⟨go, j * 3 + 1, none⟩ = _ := y1; have f1 := hfr 1; replace f1 : wr.frozen? ⟨go, j * 3 + 1, none⟩ = false := f1
   have y2 := hcc 2 _ rfl; replace y2 : wr.cell? ⟨go, j * 3 + 2, none⟩ = _ := y2; have f2 := hfr 2; replace f2 : wr.frozen? ⟨go, j * 3 + 2, none⟩ = false := f2
   have HP := Aside0.mk (Kd.R_seg HO.out (j : Int) (by omega) (by omega) (seg := [.int .i64 kk, .int .u64 (kk + 1)]) (j := 0) hcl (by rw [Int.toNat_natCast]; exact hcc) (show 2 ≤ 3 from by decide) (x' := ⟨kk, kk + 1, (xs.getD j zConst).text⟩) (kConst_mkM _ _ _ ⟨kk, kk + 1, (xs.getD j zConst).text⟩) (fun _ hk => hk)).1
   have GB := Aside0.mk gb; have GK := Aside0.mk hg
   have HB2 := Aside0.mk (below_set (below_set HB.out (Nat.le_trans hlo gb) (j := j * 3) (v := .int .i64 kk)) (Nat.le_trans hlo gb) (j := j * 3 + 1) (v := .int .u64 (kk + 1)))
   have HK2 := Aside0.mk (Kept.setCell (Kept.setCell HK.out (p := ⟨go, j * 3, none⟩) (.inl hg) (.int .i64 kk)) (p := ⟨go, j * 3 + 1, none⟩) (.inl hg) (.int .u64 (kk + 1)))
   have hw1 : IntKind.u64.wrap (kk + 1) = kk + 1 := IntWalk.u64_in _ (by omega)
   have hx2 := pw_cell_below (Below.refl _ _) y2
   clear gb gl hcl hcc hfr hM hg
   go_wp2_with fail
   refine (laws_markText.calls 31 (kk + 1 + 1) (mkText (kk + 1 + 1)) _ (text_ok (by omega) (by omega))).mono ?_; rintro e w2 ⟨rfl, hb⟩
   have HP1 : Aside0 (kConst.R 100 ((wr.setCell ⟨go, j * 3, none⟩ (.int .i64 kk)).setCell ⟨go, j * 3 + 1, none⟩ (.int .u64 (kk + 1))) lo ok (.slice (some ⟨go, 0, none⟩) l.length c) (xs.set j ⟨kk, kk + 1, (xs.getD j zConst).text⟩)) := HP
   have HP2 := Aside0.mk (Kd.R_below HP1.out hb)
   have HB3 := Aside0.mk (below_step HB2.out hb); have HK3 := Aside0.mk (Kept.below HK2.out hb)
   clear HP HP1 HB2 HK2 hb y0 y1 y2 f0 f1 f2 hx2
   obtain ⟨ce, hcl, hM, hcc, hfr⟩ := Kd.R_elem HP2.out zConst (j : Int) (by omega) (by omega)
   have hge : (xs.set j ⟨kk, kk + 1, (xs.getD j zConst).text⟩).getD j zConst = (⟨kk, kk + 1, (xs.getD j zConst).text⟩ : Const) := el_set_eq (by omega)
   rw [Int.toNat_natCast, hge] at hM
   have hce := kConst_openM hM; subst hce
   rw [Int.toNat_natCast] at hcc hfr
   have y2 := hcc 2 _ rfl; replace y2 : w2.cell? ⟨go, j * 3 + 2, none⟩ = _ := y2; have f2 := hfr 2; replace f2 : w2.frozen? ⟨go, j * 3 + 2, none⟩ = false := f2
   have HP := Aside0.mk (Kd.R_seg HP2.out (j : Int) (by omega) (by omega) (seg := [.string (mkText (kk + 1 + 1))]) (j := 2) hcl (by rw [Int.toNat_natCast]; exact hcc) (show 3 ≤ 3 from by decide) (x' := mkConst kk) (kConst_mkM _ _ _ (mkConst kk)) (fun _ hk => hk)).1
   rw [Int.toNat_natCast, List.set_set] at HP
   clear hcl hcc hfr hM hge
   go_wp2
   go_roundw
   case measure => simp [intOf]; omega
   case rel => exact ⟨j + 1, kk + 3, _, by first | rfl | (simp [Int.add_assoc]; done) | go_num, by go_num, ⟨by have := HKK.out; omega⟩, by omega, by simpa using hn, ⟨fun i hi => by rcases Nat.lt_succ_iff_lt_or_eq.1 hi with h | h; (rw [el_set_ne (by omega)]; exact HE.out i h); subst h; rw [el_mkConstS k hlt, ← HKK.out]; exact el_set_eq (by omega)⟩, HP, ⟨below_set HB3.out (Nat.le_trans hlo GB.out)⟩, ⟨Kept.setCell HK3.out (.inl GK.out) _⟩⟩
  ·have hb2 : ¬ (j : Int) < (l.length : Int) := by omega
   have hj2 : j = l.length := by omega
   have he : xs = mkConstS k l.length := el_ext zConst (by rw [hn, mkConstS_len]) (fun i hi => HE.out i (by omega))
   subst he
   have hke := HKK.out
   rw [hj2] at hke
   subst hke
   go_wp2
   go_ret
   exact ⟨rfl, HO.out, HB.out, HK.out⟩
end Go.Proofs.Ytcbaokflimdjnaa
end
section
namespace Go.Proofs.Ytcbaokflimdjnaa
open Go.RowKit Go.Proofs.YtcbaokflimdjnaaW.PrintWords Go.Proofs.YtcbaokflimdjnaaW.PrintMore Go.Proofs.Ytcbaokflimdjnaa.Law Go.Proofs.Ytcbaokflimdjnaa.Num Go.Proofs.Ytcbaokflimdjnaa.QFnExactVerify
theorem ty_apart {w : World} {k : Nat} {E1 E2 : List Nat} (hd : ∀ a ∈ E1, ∀ b ∈ E2, a ≠ b) (h1 : ∃ q, q ∈ E1 ∧ ∃ cells, w.heap[k]? = some (.cells cells q (0, 0))) (h2 : ∃ q, q ∈ E2 ∧ ∃ cells, w.heap[k]? = some (.cells cells q (0, 0))) : False := by
 obtain ⟨a, ha, c1, e1⟩ := h1
 obtain ⟨b, hb, c2, e2⟩ := h2
 rw [e1] at e2
 injection e2 with e2
 injection e2 with _ e2
 exact hd a ha b hb e2
def cntFunc (x : Func) : Nat := 2 + 2 * x.caps.length + 3 * x.code.length + 3 * x.handlers.length
def mkFunc (x : Func) (k : Int) : Func := ⟨k, k + 1, mkCapS (k + 1 + 1) x.caps.length, mkInsS (k + 1 + 1 + 2 * (x.caps.length : Int)) x.code.length, mkHandlerS (k + 1 + 1 + 2 * (x.caps.length : Int) + 3 * (x.code.length : Int)) x.handlers.length⟩
def cntFuncs (l : List Func) : Nat := (l.map cntFunc).sum
def mkFuncS (k : Int) (l : List Func) : List Func := (List.range l.length).map (fun (j : Nat) => mkFunc (el zFunc l j) (k + (cntFuncs (l.take j) : Int)))
theorem mkFuncS_len (k : Int) (l : List Func) : (mkFuncS k l).length = l.length := by simp [mkFuncS]
theorem el_mkFuncS (k : Int) {l : List Func} {j : Nat} (h : j < l.length) : el zFunc (mkFuncS k l) j = mkFunc (el zFunc l j) (k + (cntFuncs (l.take j) : Int)) := by
 unfold mkFuncS
 rw [el_lt zFunc (by simpa using h), List.getElem_map, List.getElem_range]
theorem cnt_step {l : List Func} {j : Nat} (h : j < l.length) : cntFuncs (l.take (j + 1)) = cntFuncs (l.take j) + cntFunc (el zFunc l j) := by
 unfold cntFuncs
 rw [List.take_add_one, List.getElem?_eq_getElem h, List.map_append, List.sum_append, el_lt zFunc h]
 simp
theorem cnt_le (l : List Func) (j : Nat) : cntFuncs (l.take j) ≤ cntFuncs l := by
 have h : l.take j ++ l.drop j = l := List.take_append_drop j l
 have h2 : cntFuncs l = cntFuncs (l.take j) + cntFuncs (l.drop j) := by
  conv => lhs; rw [← h]
  unfold cntFuncs
  rw [List.map_append, List.sum_append]
 omega
set_option maxHeartbeats 8000000 in
set_option maxRecDepth 100000 in
theorem markFuncS (v1 : Value) (l : List Func) (k : Int) (w0 w : World) (lo : Nat) (ok : Nat → Prop) (hB : Below w0.heap.size w0 w) (hlo : w0.heap.size ≤ lo) (hr : Kd.S kFuncI 73 w lo ok v1 l) (h0 : 0 ≤ k) (h1 : k + (cntFuncs l : Int) ≤ 4611686018427387904) (hll : l.length ≤ 1048576) :
  Calls Try.prog 64 #[v1, .int .i64 k] w fun e w' => e = .returned (.int .i64 (k + (cntFuncs l : Int))) ∧ Kd.S kFuncI 73 w' lo ok v1 (mkFuncS k l) ∧ Below w0.heap.size w0 w' ∧ Kept w w' ok := by
 have HB := Aside0.mk hB
 have HO := Aside0.mk hr
 have HK := Aside0.mk (Kept.refl w ok)
 have HOK := Aside0.mk (Kd.S_R hr).1
 have hu := Try.underlying73
 obtain ⟨A, c, rfl⟩ := Kd.S_slice hr
 clear hB hr
 go_enter Try.func64, Try.ntmps64
 go_wp2
 go_loopw [1, 5] (fun u v wr => ∃ (j : Nat) (kk : Int) (xs : List Func), u = .int .i64 kk ∧ v = .int .i64 j ∧ Aside0 (kk = k + (cntFuncs (l.take j) : Int)) ∧ j ≤ l.length ∧ xs.length = l.length ∧ Aside0 (∀ i : Nat, i < j → el zFunc xs i = el zFunc (mkFuncS k l) i) ∧ Aside0 (∀ i : Nat, j ≤ i → el zFunc xs i = el zFunc l i) ∧ Aside0 (Kd.S kFuncI 73 wr lo ok (.slice A l.length c) xs) ∧ Aside0 (Below w0.heap.size w0 wr) ∧ Aside0 (Kept w wr ok)) (fun u v _ => l.length - (intOf v).toNat)
 case atStart => exact ⟨0, k, l, rfl, rfl, ⟨by simp [cntFuncs]⟩, by omega, rfl, ⟨fun i hi => by omega⟩, ⟨fun i hi => rfl⟩, HO, HB, HK⟩
 case round =>
  clear HO HB HK
  obtain ⟨j, kk, xs, rfl, rfl, HKK, hj, hn, HE, HE2, HO, HB, HK⟩ := hrel
  by_cases hlt : j < l.length
  rotate_left
  ·have hb2 : ¬ (j : Int) < (l.length : Int) := by omega
   have hj2 : j = l.length := by omega
   have he : xs = mkFuncS k l := el_ext zFunc (by rw [hn, mkFuncS_len]) (fun i hi => HE.out i (by omega))
   subst he
   have hke := HKK.out
   rw [hj2, List.take_length] at hke
   subst hke
   go_wp2
   go_ret
   exact ⟨rfl, HO.out, HB.out, HK.out⟩
  have hb2 : (j : Int) < (l.length : Int) := by omega
  have hj0 : (0 : Int) ≤ (j : Int) := by omega
  obtain ⟨y, hy⟩ : ∃ y, y = el zFunc l j := ⟨_, rfl⟩
  have HCN := Aside0.mk (cnt_step hlt)
  rw [← hy] at HCN
  have HY := Aside0.mk hy; clear hy
  have hkb : 0 ≤ kk ∧ kk + 2 + 2 * y.caps.length + 3 * y.code.length + 3 * y.handlers.length ≤ 4611686018427387904 := by
   have h1 := HKK.out; have h2 := HCN.out; have h3 := cnt_le l (j + 1)
   unfold cntFunc at h2
   omega
  have hkk : 0 ≤ kk ∧ kk ≤ 4611686018427387904 := by omega
  obtain ⟨go, co, hv, gb, gl, HG0⟩ := Kd.S_form HO.out (by omega)
  rw [hn] at hv
  have hg : ok go := HOK.out go (by rw [hv]; simp [Value.ownBlock])
  injection hv with hA _ hc
  subst hA; subst hc; clear HG0
  obtain ⟨oki, c1, hcl, hM, hcc, hfr, hoki, hH⟩ := Kd.S_elem HO.out zFunc (j : Int) (by omega) (by omega)
  rw [Int.toNat_natCast, show xs.getD j zFunc = y from by rw [HY.out]; exact HE2.out j (Nat.le_refl _)] at hM
  obtain ⟨v2, v3, v4, rfl, r2, r3, r4⟩ := kFuncI_openM hM
  rw [Int.toNat_natCast] at hcc hfr
  have y0 := hcc 0 _ rfl; replace y0 : wr.cell? ⟨go, j * 5, none⟩ = _ := y0; have f0 := hfr 0; replace f0 : wr.frozen? ⟨go, j * 5, none⟩ = false := f0
  have y1 := hcc 1 _ rfl; replace y1 : wr.cell? ⟨go, j * 5 + 1, none⟩ = _ := y1; have f1 := hfr 1; replace f1 : wr.frozen? ⟨go, j * 5 + 1, none⟩ = false := f1
  have hS := Kd.H_seg hH (by omega) (by omega) (seg := [.int .i64 kk, .int .i64 (kk + 1)]) (j := 0) (show 2 ≤ 5 from by decide) (by intro q hq; simp at hq; rcases hq with rfl | rfl <;> rfl)
  have hF := fun (b : Nat) (hb : oki b) => (hoki b hb).2
  have S1 : Aside0 (Kd.S kFuncI 73 ((wr.setCell ⟨go, j * 5, none⟩ (.int .i64 kk)).setCell ⟨go, j * 5 + 1, none⟩ (.int .i64 (kk + 1))) lo ok (.slice (some ⟨go, 0, none⟩) l.length c) (xs.set j ⟨kk, kk + 1, y.caps, y.code, y.handlers⟩)) :=
   ⟨Kd.H_back hS.1 (kFuncI_mkM _ _ _ ⟨kk, kk + 1, y.caps, y.code, y.handlers⟩ (Kd.R_far (Kd.R_far r2 (p := ⟨go, j * 5, none⟩) hF (.int .i64 kk)) (p := ⟨go, j * 5 + 1, none⟩) hF (.int .i64 (kk + 1))) (Kd.R_far (Kd.R_far r3 (p := ⟨go, j * 5, none⟩) hF (.int .i64 kk)) (p := ⟨go, j * 5 + 1, none⟩) hF (.int .i64 (kk + 1))) (Kd.R_far (Kd.R_far r4 (p := ⟨go, j * 5, none⟩) hF (.int .i64 kk)) (p := ⟨go, j * 5 + 1, none⟩) hF (.int .i64 (kk + 1)))) (fun _ h => h)⟩
  have B1 := Aside0.mk (below_set (below_set HB.out (Nat.le_trans hlo gb) (j := j * 5) (v := .int .i64 kk)) (Nat.le_trans hlo gb) (j := j * 5 + 1) (v := .int .i64 (kk + 1)))
  have K1 := Aside0.mk (Kept.setCell (Kept.setCell HK.out (p := ⟨go, j * 5, none⟩) (.inl hg) (.int .i64 kk)) (p := ⟨go, j * 5 + 1, none⟩) (.inl hg) (.int .i64 (kk + 1)))
  have GB := Aside0.mk gb
  clear hcl hM hcc hfr hoki hH hS hF r2 r3 r4 gb gl hg
  go_upto_region 8 with fail
  clear y0 y1 f0 f1
  generalize (wr.setCell ⟨go, j * 5, none⟩ (.int .i64 kk)).setCell ⟨go, j * 5 + 1, none⟩ (.int .i64 (kk + 1)) = w1 at S1 B1 K1 ⊢
  have hx1 : (xs.set j ⟨kk, kk + 1, y.caps, y.code, y.handlers⟩).length = l.length := by simpa using hn
  obtain ⟨oki, c1, hcl, hM, hcc, hfr, hoki, hH⟩ := Kd.S_elem S1.out zFunc (j : Int) (by omega) (by omega)
  rw [Int.toNat_natCast, show (xs.set j (⟨kk, kk + 1, y.caps, y.code, y.handlers⟩ : Func)).getD j zFunc = (⟨kk, kk + 1, y.caps, y.code, y.handlers⟩ : Func) from el_set_eq (by omega)] at hM
  obtain ⟨v2, v3, v4, rfl, r2, r3, r4⟩ := kFuncI_openM hM
  rw [Int.toNat_natCast] at hcc
  obtain ⟨B, d, hvb⟩ := Kd.R_slice r2; have yb := hcc 2 _ rfl; replace yb : w1.cell? ⟨go, j * 5 + 2, none⟩ = _ := yb
  rw [hvb] at yb
  have RB := Aside0.mk (Kd.R_bound r2)
  rw [hvb] at RB
  have Q3 := Aside0.mk (Kd.R_bound r3)
  have Q4 := Aside0.mk (Kd.R_bound r4)
  have HH := Aside0.mk hH; have HI := Aside0.mk hoki; have HV := Aside0.mk hvb
  clear hcl hM hcc hfr hoki hH r2 r3 r4 hvb
  go_wp2_with fail
  refine (markCapS _ y.caps (kk + 1 + 1) w0 _ lo _ B1.out hlo RB.out (by omega) (by omega)).mono ?_; rintro e w2 ⟨rfl, hr, hb, hk⟩
  rw [← HV.out] at hr
  have S2 := Aside0.mk (Kd.H_back (Kd.H_kept HH.out hk (fun k _ hn h2 => hn h2.1)) (kFuncI_mkM _ _ _ (⟨kk, kk + 1, mkCapS (kk + 1 + 1) y.caps.length, y.code, y.handlers⟩ : Func) (Kd.R_mono hr (fun k hk => hk.1)) (Kd.R_mono (Kd.R_kept Q3.out hk (fun k h1 h2 => ty_apart (E1 := 76 :: kIns.E) (E2 := 105 :: kCap.E) (by decide) h1.2.2.2 h2.2.2.2)) (fun k hk => hk.1)) (Kd.R_mono (Kd.R_kept Q4.out hk (fun k h1 h2 => ty_apart (E1 := 107 :: kHandler.E) (E2 := 105 :: kCap.E) (by decide) h1.2.2.2 h2.2.2.2)) (fun k hk => hk.1))) (fun _ h => h))
  rw [Int.toNat_natCast, List.set_set] at S2
  have B2 := Aside0.mk hb; have K2 := Aside0.mk (Kept.then_ K1.out hk (fun k h => .inl (HI.out k h.1).1))
  have hx2 : (xs.set j (⟨kk, kk + 1, mkCapS (kk + 1 + 1) y.caps.length, y.code, y.handlers⟩ : Func)).length = l.length := by simpa using hn
  clear hr hb hk yb RB HH HI HV S1 B1 K1 Q3 Q4 hx1
  obtain ⟨oki, c1, hcl, hM, hcc, hfr, hoki, hH⟩ := Kd.S_elem S2.out zFunc (j : Int) (by omega) (by omega)
  rw [Int.toNat_natCast, show (xs.set j (⟨kk, kk + 1, mkCapS (kk + 1 + 1) y.caps.length, y.code, y.handlers⟩ : Func)).getD j zFunc = (⟨kk, kk + 1, mkCapS (kk + 1 + 1) y.caps.length, y.code, y.handlers⟩ : Func) from el_set_eq (by omega)] at hM
  obtain ⟨v2, v3, v4, rfl, r2, r3, r4⟩ := kFuncI_openM hM
  rw [Int.toNat_natCast] at hcc
  obtain ⟨B, d, hvb⟩ := Kd.R_slice r3; have yb := hcc 3 _ rfl; replace yb : w2.cell? ⟨go, j * 5 + 3, none⟩ = _ := yb
  rw [hvb] at yb
  have RB := Aside0.mk (Kd.R_bound r3)
  rw [hvb] at RB
  have Q2 := Aside0.mk (Kd.R_bound r2)
  have Q4 := Aside0.mk (Kd.R_bound r4)
  have HH := Aside0.mk hH; have HI := Aside0.mk hoki; have HV := Aside0.mk hvb
  clear hcl hM hcc hfr hoki hH r2 r3 r4 hvb
  go_wp2_with fail
  refine (markInsS _ y.code (kk + 1 + 1 + 2 * (y.caps.length : Int)) w0 _ lo _ B2.out hlo RB.out (by omega) (by omega)).mono ?_; rintro e w3 ⟨rfl, hr, hb, hk⟩
  rw [← HV.out] at hr
  have S3 := Aside0.mk (Kd.H_back (Kd.H_kept HH.out hk (fun k _ hn h2 => hn h2.1)) (kFuncI_mkM _ _ _ (⟨kk, kk + 1, mkCapS (kk + 1 + 1) y.caps.length, mkInsS (kk + 1 + 1 + 2 * (y.caps.length : Int)) y.code.length, y.handlers⟩ : Func) (Kd.R_mono (Kd.R_kept Q2.out hk (fun k h1 h2 => ty_apart (E1 := 105 :: kCap.E) (E2 := 76 :: kIns.E) (by decide) h1.2.2.2 h2.2.2.2)) (fun k hk => hk.1)) (Kd.R_mono hr (fun k hk => hk.1)) (Kd.R_mono (Kd.R_kept Q4.out hk (fun k h1 h2 => ty_apart (E1 := 107 :: kHandler.E) (E2 := 76 :: kIns.E) (by decide) h1.2.2.2 h2.2.2.2)) (fun k hk => hk.1))) (fun _ h => h))
  rw [Int.toNat_natCast, List.set_set] at S3
  have B3 := Aside0.mk hb; have K3 := Aside0.mk (Kept.then_ K2.out hk (fun k h => .inl (HI.out k h.1).1))
  have hx3 : (xs.set j (⟨kk, kk + 1, mkCapS (kk + 1 + 1) y.caps.length, mkInsS (kk + 1 + 1 + 2 * (y.caps.length : Int)) y.code.length, y.handlers⟩ : Func)).length = l.length := by simpa using hn
  clear hr hb hk yb RB HH HI HV S2 B2 K2 Q2 Q4 hx2
  obtain ⟨oki, c1, hcl, hM, hcc, hfr, hoki, hH⟩ := Kd.S_elem S3.out zFunc (j : Int) (by omega) (by omega)
  rw [Int.toNat_natCast, show (xs.set j (⟨kk, kk + 1, mkCapS (kk + 1 + 1) y.caps.length, mkInsS (kk + 1 + 1 + 2 * (y.caps.length : Int)) y.code.length, y.handlers⟩ : Func)).getD j zFunc = (⟨kk, kk + 1, mkCapS (kk + 1 + 1) y.caps.length, mkInsS (kk + 1 + 1 + 2 * (y.caps.length : Int)) y.code.length, y.handlers⟩ : Func) from el_set_eq (by omega)] at hM
  obtain ⟨v2, v3, v4, rfl, r2, r3, r4⟩ := kFuncI_openM hM
  rw [Int.toNat_natCast] at hcc
  obtain ⟨B, d, hvb⟩ := Kd.R_slice r4; have yb := hcc 4 _ rfl; replace yb : w3.cell? ⟨go, j * 5 + 4, none⟩ = _ := yb
  rw [hvb] at yb
  have RB := Aside0.mk (Kd.R_bound r4)
  rw [hvb] at RB
  have Q2 := Aside0.mk (Kd.R_bound r2)
  have Q3 := Aside0.mk (Kd.R_bound r3)
  have HH := Aside0.mk hH; have HI := Aside0.mk hoki; have HV := Aside0.mk hvb
  clear hcl hM hcc hfr hoki hH r2 r3 r4 hvb
  go_wp2_with fail
  refine (markHandlerS _ y.handlers (kk + 1 + 1 + 2 * (y.caps.length : Int) + 3 * (y.code.length : Int)) w0 _ lo _ B3.out hlo RB.out (by omega) (by omega)).mono ?_; rintro e w4 ⟨rfl, hr, hb, hk⟩
  rw [← HV.out] at hr
  have S4 := Aside0.mk (Kd.H_back (Kd.H_kept HH.out hk (fun k _ hn h2 => hn h2.1)) (kFuncI_mkM _ _ _ (⟨kk, kk + 1, mkCapS (kk + 1 + 1) y.caps.length, mkInsS (kk + 1 + 1 + 2 * (y.caps.length : Int)) y.code.length, mkHandlerS (kk + 1 + 1 + 2 * (y.caps.length : Int) + 3 * (y.code.length : Int)) y.handlers.length⟩ : Func) (Kd.R_mono (Kd.R_kept Q2.out hk (fun k h1 h2 => ty_apart (E1 := 105 :: kCap.E) (E2 := 107 :: kHandler.E) (by decide) h1.2.2.2 h2.2.2.2)) (fun k hk => hk.1)) (Kd.R_mono (Kd.R_kept Q3.out hk (fun k h1 h2 => ty_apart (E1 := 76 :: kIns.E) (E2 := 107 :: kHandler.E) (by decide) h1.2.2.2 h2.2.2.2)) (fun k hk => hk.1)) (Kd.R_mono hr (fun k hk => hk.1))) (fun _ h => h))
  rw [Int.toNat_natCast, List.set_set] at S4
  have B4 := Aside0.mk hb; have K4 := Aside0.mk (Kept.then_ K3.out hk (fun k h => .inl (HI.out k h.1).1))
  have hx4 : (xs.set j (⟨kk, kk + 1, mkCapS (kk + 1 + 1) y.caps.length, mkInsS (kk + 1 + 1 + 2 * (y.caps.length : Int)) y.code.length, mkHandlerS (kk + 1 + 1 + 2 * (y.caps.length : Int) + 3 * (y.code.length : Int)) y.handlers.length⟩ : Func)).length = l.length := by simpa using hn
  clear hr hb hk yb RB HH HI HV S3 B3 K3 Q2 Q3 hx3
  go_wp2
  go_roundw
  case measure => simp [intOf]; omega
  case rel =>
   refine ⟨j + 1, kk + 1 + 1 + 2 * (y.caps.length : Int) + 3 * (y.code.length : Int) + 3 * (y.handlers.length : Int), _, by first | rfl | go_num, by go_num, ⟨?_⟩, by omega, hx4, ⟨fun i hi => ?_⟩, ⟨fun i hi => ?_⟩, S4, B4, K4⟩
   ·have h1 := HKK.out; have h2 := HCN.out; unfold cntFunc at h2; omega
   ·rcases Nat.lt_succ_iff_lt_or_eq.1 hi with h | h
    ·rw [el_set_ne (by omega)]; exact HE.out i h
    ·subst h
     rw [el_mkFuncS k hlt, ← HKK.out, ← HY.out]
     exact el_set_eq (by omega)
   ·rw [el_set_ne (by omega)]; exact HE2.out i (by omega)
set_option maxHeartbeats 4000000 in
set_option maxRecDepth 100000 in
theorem markImage (x : Image) (cs : List Value) (k : Int) (w0 w : World) (lo : Nat) (ok : Nat → Prop) (hB : Below w0.heap.size w0 w) (hlo : w0.heap.size ≤ lo) (hok : ∀ b, ok b → b < w.heap.size) (hm : kImageA.M w lo ok x cs) (h0 : 0 ≤ k) (h1 : k + (cntFuncs x.funcs : Int) + 3 * (x.consts.length : Int) ≤ 4611686018427387904) (hl : x.funcs.length ≤ 1048576) :
  Calls Try.prog 20 #[.agg ⟨cs⟩, .int .i64 k] w fun e w' => e = .returned (.int .i64 (k + (cntFuncs x.funcs : Int) + 3 * (x.consts.length : Int))) ∧ kImageA.M w' lo ok ⟨mkFuncS k x.funcs, mkConstS (k + (cntFuncs x.funcs : Int)) x.consts.length⟩ cs ∧ Below w0.heap.size w0 w' ∧ Kept w w' ok := by
 obtain ⟨v0, v1, rfl, hs, hr⟩ := kImageA_openM hm
 obtain ⟨A0, c0, rfl⟩ := Kd.S_slice hs
 obtain ⟨A1, c1, rfl⟩ := Kd.R_slice hr
 clear hm
 have hu := Try.underlying37
 have HS := Aside0.mk (Kd.S_bound (Kd.S_below hs (below_alloc (Below.refl w.heap.size w) (.cells #[.slice A0 x.funcs.length c0, .slice A1 x.consts.length c1] 37))))
 have HR := Aside0.mk (Kd.R_bound (Kd.R_below hr (below_alloc (Below.refl w.heap.size w) (.cells #[.slice A0 x.funcs.length c0, .slice A1 x.consts.length c1] 37))))
 have HB := Aside0.mk (below_alloc hB (.cells #[.slice A0 x.funcs.length c0, .slice A1 x.consts.length c1] 37))
 have HK := Aside0.mk ((Kept.refl w ok).alloc (.cells #[.slice A0 x.funcs.length c0, .slice A1 x.consts.length c1] 37))
 clear hs hr hB
 go_enter Try.func20, Try.ntmps20
 go_wp2_with fail
 refine (markFuncS _ x.funcs k w0 _ lo _ HB.out hlo HS.out h0 (by omega) hl).mono ?_
 rintro e w1 ⟨rfl, hs, hb, hk⟩
 have HR1 := Aside0.mk (Kd.R_kept HR.out hk (fun k h1 h2 => ty_apart (E1 := 100 :: kConst.E) (E2 := 73 :: kFuncI.E) (by decide) h1.2.2.2 h2.2.2.2))
 have HS1 := Aside0.mk (Kd.S_bound (Kd.S_mono hs (fun k h => h.1))); have HB1 := Aside0.mk hb; have HK1 := Aside0.mk (HK.out.then_ hk (fun b hb => .inl hb.1))
 have hbx := (hk.2 w.heap.size (by simp) (fun h => by have := hok _ h.1; omega)).trans (blk_new w (.cells #[.slice A0 x.funcs.length c0, .slice A1 x.consts.length c1] 37))
 have zb := fun o => blk_cell hbx o
 clear hs hb hk HS HR HB HK hbx
 go_wp2_with fail
 clear zb
 refine (markConstS _ x.consts (k + (cntFuncs x.funcs : Int)) w0 _ lo _ HB1.out hlo (Kd.R_bound HR1.out) (by omega) (by omega)).mono ?_
 rintro e w2 ⟨rfl, hr, hb, hk⟩
 have HS2 := Aside0.mk (Kd.S_kept HS1.out hk (fun k h1 h2 => ty_apart (E1 := 73 :: kFuncI.E) (E2 := 100 :: kConst.E) (by decide) h1.2.2.2 h2.2.2.2))
 have HR2 := Aside0.mk hr; have HB2 := Aside0.mk hb; have HK2 := Aside0.mk (HK1.out.then_ hk (fun b hb => .inl hb.1.1))
 clear hr hb hk HS1 HR1 HB1 HK1
 go_wp2
 go_ret
 have e1 : (mkFuncS k x.funcs).length = x.funcs.length := mkFuncS_len _ _
 have e2 : (mkConstS (k + (cntFuncs x.funcs : Int)) x.consts.length).length = x.consts.length := mkConstS_len _ _
 exact ⟨rfl, kImageA_mkM _ _ _ ⟨mkFuncS k x.funcs, mkConstS (k + (cntFuncs x.funcs : Int)) x.consts.length⟩ (Kd.S_mono HS2.out (fun k h => h.1)) (Kd.R_mono HR2.out (fun k h => h.1.1)), HB2.out, HK2.out⟩
end Go.Proofs.Ytcbaokflimdjnaa
end
section
namespace Go.Proofs.Ytcbaokflimdjnaa
open Go.RowKit Go.Proofs.YtcbaokflimdjnaaW.PrintWords Go.Proofs.YtcbaokflimdjnaaW.PrintLast Go.Proofs.Ytcbaokflimdjnaa.Steps Go.Proofs.YtcbaokflimdjnaaW.PrintMore Go.Proofs.Ytcbaokflimdjnaa.Law Go.Proofs.Ytcbaokflimdjnaa.Num Go.Proofs.Ytcbaokflimdjnaa.QFnExactVerify
def heldC.T10 : Bool × List (List Nat × List Nat) := (true, [([], []), ([], []), ([0, 1], [0, 1]), ([2], [2]), ([3], [3]), ([], []), ([5], [5]), ([4, 6], [4, 6])])
def heldC.B10 : List Nat := [0, 0, 3, 7, 15, 0, 32, 127]
theorem heldC.tab10 : rtab .any (opsOf Try.f71 10) = heldC.T10 := by kernel_rfl
theorem heldC.bits10 : waitsOk heldC.T10.2 heldC.B10 = true := by kernel_rfl
set_option maxHeartbeats 4000000 in
set_option maxRecDepth 100000 in
theorem heldCapS (A : Option Addr) (c n : Nat) (l : List Cap) (k : Int) (w : World) (hr : kCap.C w A l.length l) (hl : l = mkCapS k n) (h0 : 0 ≤ k) (h1 : k + 2 * l.length ≤ 4611686018427387904) :
  Calls Try.prog 113 #[.slice A l.length c, .int .i64 k] w fun e w' => e = .returned (.int .i64 (k + 2 * (l.length : Int))) ∧ Below w.heap.size w w' := by
 have HR := Aside0.mk hr; clear hr
 have hn : l.length = n := by rw [hl, mkCapS_len]
 have HL := Aside0.mk hl
 have hll : l.length ≤ 9223372036854775807 := by omega
 have hu := Try.underlying105
 clear hl
 have HB := Aside0.mk (Below.refl w.heap.size w)
 go_enter Try.func113, Try.ntmps113
 go_wp2
 go_loopw [1, 5] (fun u v wr => ∃ (j : Nat) (kk : Int), u = .int .i64 kk ∧ v = .int .i64 j ∧ Aside0 (kk = k + 2 * (j : Int)) ∧ j ≤ l.length ∧ Aside0 (Below w.heap.size w wr)) (fun u v _ => l.length - (intOf v).toNat)
 case atStart => exact ⟨0, k, rfl, rfl, ⟨by simp⟩, by omega, HB⟩
 case round =>
  clear HB
  obtain ⟨j, kk, rfl, rfl, HKK, hj, HB⟩ := hrel
  have hkk : 0 ≤ kk ∧ kk ≤ 4611686018427387904 := by have := HKK.out; omega
  by_cases hlt : j < l.length
  ·obtain ⟨a, ha, cK, y0, y1⟩ := Cap_at HR.out j hlt
   cases ha
   have he : el zCap l j = mkCap kk := by rw [HL.out, el_mkCapS k (by omega), ← HKK.out]
   have hb2 : (j : Int) < (l.length : Int) := by omega
   have hk3 : kk + 2 ≤ 4611686018427387904 := by have := HKK.out; omega
   clear cK
   have hx0 := (HB.out.cell (World.block_lt_of_cell? w _ y0)).trans y0; rw [he] at hx0; try simp only [mkCap] at hx0
   have hx1 := (HB.out.cell (World.block_lt_of_cell? w _ y1)).trans y1; rw [he] at hx1; try simp only [mkCap] at hx1
   clear y0 y1 he
   have hq0 : ((kk % 3 == 0) != (kk % 3 == 0)) = false := by simp
   have hq1 : ((kk + 1) != (kk + 1)) = false := by simp
   go_wp2
   go_roundw
   case measure => simp [intOf]; omega
   case rel => exact ⟨j + 1, kk + 2, by first | rfl | (simp [Int.add_assoc]; done) | go_num, by go_num, ⟨by have := HKK.out; omega⟩, by omega, HB⟩
  ·have hb2 : ¬ (j : Int) < (l.length : Int) := by omega
   have hj2 : j = l.length := by omega
   have hke := HKK.out
   rw [hj2] at hke
   subst hke
   go_wp2
   go_ret
   exact ⟨rfl, HB.out⟩
set_option maxHeartbeats 4000000 in
set_option maxRecDepth 100000 in
theorem heldInsS (A : Option Addr) (c n : Nat) (l : List Ins) (k : Int) (w : World) (hr : kIns.C w A l.length l) (hl : l = mkInsS k n) (h0 : 0 ≤ k) (h1 : k + 3 * l.length ≤ 4611686018427387904) :
  Calls Try.prog 114 #[.slice A l.length c, .int .i64 k] w fun e w' => e = .returned (.int .i64 (k + 3 * (l.length : Int))) ∧ Below w.heap.size w w' := by
 have HR := Aside0.mk hr; clear hr
 have hn : l.length = n := by rw [hl, mkInsS_len]
 have HL := Aside0.mk hl
 have hll : l.length ≤ 9223372036854775807 := by omega
 have hu := Try.underlying76
 clear hl
 have HB := Aside0.mk (Below.refl w.heap.size w)
 go_enter Try.func114, Try.ntmps114
 go_wp2
 go_loopw [1, 5] (fun u v wr => ∃ (j : Nat) (kk : Int), u = .int .i64 kk ∧ v = .int .i64 j ∧ Aside0 (kk = k + 3 * (j : Int)) ∧ j ≤ l.length ∧ Aside0 (Below w.heap.size w wr)) (fun u v _ => l.length - (intOf v).toNat)
 case atStart => exact ⟨0, k, rfl, rfl, ⟨by simp⟩, by omega, HB⟩
 case round =>
  clear HB
  obtain ⟨j, kk, rfl, rfl, HKK, hj, HB⟩ := hrel
  have hkk : 0 ≤ kk ∧ kk ≤ 4611686018427387904 := by have := HKK.out; omega
  by_cases hlt : j < l.length
  ·obtain ⟨a, ha, cK, y0, y1, y2⟩ := Ins_at HR.out j hlt
   cases ha
   have he : el zIns l j = mkIns kk := by rw [HL.out, el_mkInsS k (by omega), ← HKK.out]
   have hb2 : (j : Int) < (l.length : Int) := by omega
   have hk3 : kk + 3 ≤ 4611686018427387904 := by have := HKK.out; omega
   clear cK
   have hx0 := (HB.out.cell (World.block_lt_of_cell? w _ y0)).trans y0; rw [he] at hx0; try simp only [mkIns] at hx0
   have hx1 := (HB.out.cell (World.block_lt_of_cell? w _ y1)).trans y1; rw [he] at hx1; try simp only [mkIns] at hx1
   have hx2 := (HB.out.cell (World.block_lt_of_cell? w _ y2)).trans y2; rw [he] at hx2; try simp only [mkIns] at hx2
   clear y0 y1 y2 he
   have hq0 : (kk != kk) = false := by simp
   have hq1 : ((kk + 1) != (kk + 1)) = false := by simp
   have hq2 : ((kk + 1 + 1) != (kk + 1 + 1)) = false := by simp
   go_wp2
   go_roundw
   case measure => simp [intOf]; omega
   case rel => exact ⟨j + 1, kk + 3, by first | rfl | (simp [Int.add_assoc]; done) | go_num, by go_num, ⟨by have := HKK.out; omega⟩, by omega, HB⟩
  ·have hb2 : ¬ (j : Int) < (l.length : Int) := by omega
   have hj2 : j = l.length := by omega
   have hke := HKK.out
   rw [hj2] at hke
   subst hke
   go_wp2
   go_ret
   exact ⟨rfl, HB.out⟩
set_option maxHeartbeats 4000000 in
set_option maxRecDepth 100000 in
theorem heldHandlerS (A : Option Addr) (c n : Nat) (l : List Handler) (k : Int) (w : World) (hr : kHandler.C w A l.length l) (hl : l = mkHandlerS k n) (h0 : 0 ≤ k) (h1 : k + 3 * l.length ≤ 4611686018427387904) :
  Calls Try.prog 115 #[.slice A l.length c, .int .i64 k] w fun e w' => e = .returned (.int .i64 (k + 3 * (l.length : Int))) ∧ Below w.heap.size w w' := by
 have HR := Aside0.mk hr; clear hr
 have hn : l.length = n := by rw [hl, mkHandlerS_len]
 have HL := Aside0.mk hl
 have hll : l.length ≤ 9223372036854775807 := by omega
 have hu := Try.underlying107
 clear hl
 have HB := Aside0.mk (Below.refl w.heap.size w)
 go_enter Try.func115, Try.ntmps115
 go_wp2
 go_loopw [1, 5] (fun u v wr => ∃ (j : Nat) (kk : Int), u = .int .i64 kk ∧ v = .int .i64 j ∧ Aside0 (kk = k + 3 * (j : Int)) ∧ j ≤ l.length ∧ Aside0 (Below w.heap.size w wr)) (fun u v _ => l.length - (intOf v).toNat)
 case atStart => exact ⟨0, k, rfl, rfl, ⟨by simp⟩, by omega, HB⟩
 case round =>
  clear HB
  obtain ⟨j, kk, rfl, rfl, HKK, hj, HB⟩ := hrel
  have hkk : 0 ≤ kk ∧ kk ≤ 4611686018427387904 := by have := HKK.out; omega
  by_cases hlt : j < l.length
  ·obtain ⟨a, ha, cK, y0, y1, y2⟩ := Handler_at HR.out j hlt
   cases ha
   have he : el zHandler l j = mkHandler kk := by rw [HL.out, el_mkHandlerS k (by omega), ← HKK.out]
   have hb2 : (j : Int) < (l.length : Int) := by omega
   have hk3 : kk + 3 ≤ 4611686018427387904 := by have := HKK.out; omega
   clear cK
   have hx0 := (HB.out.cell (World.block_lt_of_cell? w _ y0)).trans y0; rw [he] at hx0; try simp only [mkHandler] at hx0
   have hx1 := (HB.out.cell (World.block_lt_of_cell? w _ y1)).trans y1; rw [he] at hx1; try simp only [mkHandler] at hx1
   have hx2 := (HB.out.cell (World.block_lt_of_cell? w _ y2)).trans y2; rw [he] at hx2; try simp only [mkHandler] at hx2
   clear y0 y1 y2 he
   have hq0 : (kk != kk) = false := by simp
   have hq1 : ((kk + 1) != (kk + 1)) = false := by simp
   have hq2 : ((kk + 1 + 1) != (kk + 1 + 1)) = false := by simp
   go_wp2
   go_roundw
   case measure => simp [intOf]; omega
   case rel => exact ⟨j + 1, kk + 3, by first | rfl | (simp [Int.add_assoc]; done) | go_num, by go_num, ⟨by have := HKK.out; omega⟩, by omega, HB⟩
  ·have hb2 : ¬ (j : Int) < (l.length : Int) := by omega
   have hj2 : j = l.length := by omega
   have hke := HKK.out
   rw [hj2] at hke
   subst hke
   go_wp2
   go_ret
   exact ⟨rfl, HB.out⟩
set_option maxHeartbeats 4000000 in
set_option maxRecDepth 100000 in
theorem heldConstS (A : Option Addr) (c n : Nat) (l : List Const) (k : Int) (w : World) (hr : kConst.C w A l.length l) (hl : l = mkConstS k n) (h0 : 0 ≤ k) (h1 : k + 3 * l.length ≤ 4611686018427387904) :
  Calls Try.prog 71 #[.slice A l.length c, .int .i64 k] w fun e w' => e = .returned (.int .i64 (k + 3 * (l.length : Int))) ∧ Below w.heap.size w w' := by
 have HR := Aside0.mk hr; clear hr
 have hn : l.length = n := by rw [hl, mkConstS_len]
 have HL := Aside0.mk hl
 have hll : l.length ≤ 9223372036854775807 := by omega
 have hu := Try.underlying100
 clear hl
 have HB := Aside0.mk (Below.refl w.heap.size w)
 go_enter Try.func71, Try.ntmps71
 go_wp2
 go_loopw [1, 5] (fun u v wr => ∃ (j : Nat) (kk : Int), u = .int .i64 kk ∧ v = .int .i64 j ∧ Aside0 (kk = k + 3 * (j : Int)) ∧ j ≤ l.length ∧ Aside0 (Below w.heap.size w wr)) (fun u v _ => l.length - (intOf v).toNat)
 case atStart => exact ⟨0, k, rfl, rfl, ⟨by simp⟩, by omega, HB⟩
 case round =>
  clear HB
  obtain ⟨j, kk, rfl, rfl, HKK, hj, HB⟩ := hrel
  have hkk : 0 ≤ kk ∧ kk ≤ 4611686018427387904 := by have := HKK.out; omega
  by_cases hlt : j < l.length
  ·obtain ⟨a, ha, cK, y0, y1, y2⟩ := Const_at HR.out j hlt
   cases ha
   have he : el zConst l j = mkConst kk := by rw [HL.out, el_mkConstS k (by omega), ← HKK.out]
   have hb2 : (j : Int) < (l.length : Int) := by omega
   have hk3 : kk + 3 ≤ 4611686018427387904 := by have := HKK.out; omega
   clear cK
   have hx0 := (HB.out.cell (World.block_lt_of_cell? w _ y0)).trans y0; rw [he] at hx0; try simp only [mkConst] at hx0
   have hx1 := (HB.out.cell (World.block_lt_of_cell? w _ y1)).trans y1; rw [he] at hx1; try simp only [mkConst] at hx1
   have hx2 := (HB.out.cell (World.block_lt_of_cell? w _ y2)).trans y2; rw [he] at hx2; try simp only [mkConst] at hx2
   clear y0 y1 y2 he
   have hq0 : (kk != kk) = false := by simp
   have hq1 : ((kk + 1) != (kk + 1)) = false := by simp
   have hw1 : IntKind.u64.wrap (kk + 1) = kk + 1 := IntWalk.u64_in _ (by omega)
   have hj0 : (0 : Int) ≤ (j : Int) := by omega
   go_upto_region 10 with fail
   have Y2 := Aside0.mk hx2; clear hx0 hx1 hx2
   have hqt : ((mkText (kk + 1 + 1)).toList != (mkText (kk + 1 + 1)).toList) = false := bne_self_eq_false _
   refine sz 8 (fun W => W.cell? ⟨(a.add (j * 3)).block, (a.add (j * 3)).off + 2, none⟩ = some (.string (mkText (kk + 1 + 1))) ∧ W.cell? ⟨(a.add (j * 3)).block, (a.add (j * 3)).off + 2, none⟩ = some (.string (mkText (kk + 1 + 1)))) [] heldC.tab10 heldC.bits10 ⟨pw_cell_below (below_drew1 (Below.refl _ _)) Y2.out, pw_cell_below (below_drew1 (Below.refl _ _)) Y2.out⟩ (fun HT_ HW_ hHeld => ?_)
   refine pz 0 31 ?_; refine pz 1 32 ?_; refine pz 2 33 ?_; refine pz 3 34 ?_; refine pz 5 36 ?_; refine tz 4 35 ?_
   refine ez 6 (some 37) (fun K hK => ?_)
   refine gz Try.func109 #[.int .i64 (kk + 1 + 1)] ?_
   refine (laws_markText.calls 31 (kk + 1 + 1) (mkText (kk + 1 + 1)) _ (text_ok (by omega) (by omega))).mono ?_; rintro e w2 ⟨rfl, hb⟩
   have HB2 := Aside0.mk (below_step HB.out (below_step (below_drew1 (Below.refl _ _)) hb)); have Y3 := pw_cell_below (below_step (below_drew1 (Below.refl _ _)) hb) Y2.out; clear hb
   refine ⟨_, rfl, ?_⟩
   refine hK.out _ _ ⟨Y3, Y3⟩ (fun hHeld => ?_); clear hK K; refine kz (some 37) ?_
   refine pz 7 38 ?_
   refine dz ?_
   clear hHeld
   go_wp2
   go_roundw
   case measure => simp [intOf]; omega
   case rel => exact ⟨j + 1, kk + 3, by first | rfl | (simp [Int.add_assoc]; done) | go_num, by go_num, ⟨by have := HKK.out; omega⟩, by omega, HB2⟩
  ·have hb2 : ¬ (j : Int) < (l.length : Int) := by omega
   have hj2 : j = l.length := by omega
   have hke := HKK.out
   rw [hj2] at hke
   subst hke
   go_wp2
   go_ret
   exact ⟨rfl, HB.out⟩
set_option maxHeartbeats 8000000 in
set_option maxRecDepth 100000 in
theorem heldFuncS (A : Option Addr) (c : Nat) (l0 l : List Func) (k : Int) (w : World) (hr : kFuncI.C w A l.length l) (hl : l = mkFuncS k l0) (h0 : 0 ≤ k) (h1 : k + (cntFuncs l0 : Int) ≤ 4611686018427387904) (hll : l.length ≤ 1048576) :
  Calls Try.prog 70 #[.slice A l.length c, .int .i64 k] w fun e w' => e = .returned (.int .i64 (k + (cntFuncs l0 : Int))) ∧ Below w.heap.size w w' := by
 have HR := Aside0.mk hr; clear hr
 have HNL := Aside0.mk (show l.length = l0.length by rw [hl, mkFuncS_len])
 have HL := Aside0.mk hl
 have hu := Try.underlying73
 clear hl
 have HB := Aside0.mk (Below.refl w.heap.size w)
 go_enter Try.func70, Try.ntmps70
 go_wp2
 go_loopw [1, 5] (fun u v wr => ∃ (j : Nat) (kk : Int), u = .int .i64 kk ∧ v = .int .i64 j ∧ Aside0 (kk = k + (cntFuncs (l0.take j) : Int)) ∧ j ≤ l.length ∧ Aside0 (Below w.heap.size w wr)) (fun u v _ => l.length - (intOf v).toNat)
 case atStart => exact ⟨0, k, rfl, rfl, ⟨by simp [cntFuncs]⟩, by omega, HB⟩
 case round =>
  clear HB
  obtain ⟨j, kk, rfl, rfl, HKK, hj, HB⟩ := hrel
  by_cases hlt : j < l.length
  rotate_left
  ·have hb2 : ¬ (j : Int) < (l.length : Int) := by omega
   have hj2 : j = l0.length := by have := HNL.out; omega
   have hke := HKK.out
   rw [hj2, List.take_length] at hke
   subst hke
   go_wp2
   go_ret
   exact ⟨rfl, HB.out⟩
  have hb2 : (j : Int) < (l.length : Int) := by omega
  have hj0 : (0 : Int) ≤ (j : Int) := by omega
  have hlt0 : j < l0.length := by have := HNL.out; omega
  obtain ⟨y, hy⟩ : ∃ y, y = el zFunc l0 j := ⟨_, rfl⟩
  have HCN := Aside0.mk (cnt_step hlt0)
  rw [← hy] at HCN
  have hkb : 0 ≤ kk ∧ kk + 2 + 2 * y.caps.length + 3 * y.code.length + 3 * y.handlers.length ≤ 4611686018427387904 := by
   have h1 := HKK.out; have h2 := HCN.out; have h3 := cnt_le l0 (j + 1)
   unfold cntFunc at h2
   omega
  have hkk : 0 ≤ kk ∧ kk ≤ 4611686018427387904 := by omega
  obtain ⟨a, A2, c2, A3, c3, A4, c4, ha, hK, y0, y1, y2, y3, y4⟩ := FuncI_at HR.out j hlt
  cases ha
  have he : el zFunc l j = mkFunc y kk := by rw [HL.out, el_mkFuncS k hlt0, ← HKK.out, ← hy]
  rw [he] at hK y0 y1 y2 y3 y4
  obtain ⟨B2, d2, B3, d3, B4, d4, hce, l2, g2, l3, g3, l4, g4⟩ := kFuncI_open hK
  injection hce with _ t1; injection t1 with _ t2; injection t2 with s2 t3; injection t3 with s3 t4; injection t4 with s4 _; injection s2 with e2 _ f2; injection s3 with e3 _ f3; injection s4 with e4 _ f4; subst e2; subst e3; subst e4; subst f2; subst f3; subst f4
  have C2 := Aside0.mk g2; have C3 := Aside0.mk g3; have C4 := Aside0.mk g4
  have n2 : (mkFunc y kk).caps.length = y.caps.length := mkCapS_len _ _
  have n3 : (mkFunc y kk).code.length = y.code.length := mkInsS_len _ _
  have n4 : (mkFunc y kk).handlers.length = y.handlers.length := mkHandlerS_len _ _
  rw [n2] at y2; rw [n3] at y3; rw [n4] at y4
  simp only [mkFunc] at y0 y1
  have Y2 := Aside0.mk y2; have Y3 := Aside0.mk y3; have Y4 := Aside0.mk y4; have HY := Aside0.mk hy
  clear g2 g3 g4 l2 l3 l4 hK he hy y2 y3 y4
  have hx0 := pw_cell_below HB.out y0; have hx1 := pw_cell_below HB.out y1; have hx2 := pw_cell_below HB.out Y2.out
  clear y0 y1
  have hq0 : (kk != kk) = false := by simp
  have hq1 : ((kk + 1) != (kk + 1)) = false := by simp
  go_wp2_with fail
  clear hx0 hx1 hx2
  have D := heldCapS A2 c2 y.caps.length (mkFunc y kk).caps (kk + 1 + 1) _ (Kd.C_below C2.out HB.out) rfl (by omega) (by rw [n2]; omega)
  rw [n2] at D
  refine D.mono ?_; clear D; rintro e w2 ⟨rfl, hb⟩
  have HB2 := Aside0.mk (below_step HB.out hb); clear hb
  have gk2 : decide (kk + 1 + 1 + 2 * (y.caps.length : Int) < 0) = false := by simp; omega
  have hx3 := pw_cell_below HB2.out Y3.out
  go_wp2_with fail
  clear hx3
  have D := heldInsS A3 c3 y.code.length (mkFunc y kk).code (kk + 1 + 1 + 2 * (y.caps.length : Int)) _ (Kd.C_below C3.out HB2.out) rfl (by omega) (by rw [n3]; omega)
  rw [n3] at D
  refine D.mono ?_; clear D; rintro e w3 ⟨rfl, hb⟩
  have HB3 := Aside0.mk (below_step HB2.out hb); clear hb
  have gk3 : decide (kk + 1 + 1 + 2 * (y.caps.length : Int) + 3 * (y.code.length : Int) < 0) = false := by simp; omega
  have hx4 := pw_cell_below HB3.out Y4.out
  go_wp2_with fail
  clear hx4
  have D := heldHandlerS A4 c4 y.handlers.length (mkFunc y kk).handlers (kk + 1 + 1 + 2 * (y.caps.length : Int) + 3 * (y.code.length : Int)) _ (Kd.C_below C4.out HB3.out) rfl (by omega) (by rw [n4]; omega)
  rw [n4] at D
  refine D.mono ?_; clear D; rintro e w4 ⟨rfl, hb⟩
  have HB4 := Aside0.mk (below_step HB3.out hb); clear hb
  have gk4 : decide (kk + 1 + 1 + 2 * (y.caps.length : Int) + 3 * (y.code.length : Int) + 3 * (y.handlers.length : Int) < 0) = false := by simp; omega
  clear n2 n3 n4
  go_wp2
  clear gk2 gk3 gk4 hq0 hq1
  go_roundw
  case measure => simp [intOf]; omega
  case rel => exact ⟨j + 1, kk + 1 + 1 + 2 * (y.caps.length : Int) + 3 * (y.code.length : Int) + 3 * (y.handlers.length : Int), by first | rfl | go_num, by go_num, ⟨by have h1 := HKK.out; have h2 := HCN.out; unfold cntFunc at h2; omega⟩, by omega, HB4⟩
set_option maxHeartbeats 4000000 in
set_option maxRecDepth 100000 in
theorem heldImage (x0 x : Image) (cs : List Value) (w : World) (hk : kImageI.K w x cs) (hx : x = ⟨mkFuncS 1 x0.funcs, mkConstS (1 + (cntFuncs x0.funcs : Int)) x0.consts.length⟩) (h1 : 1 + (cntFuncs x0.funcs : Int) + 3 * (x0.consts.length : Int) ≤ 4611686018427387904) (hl : x0.funcs.length ≤ 1048576) :
  Calls Try.prog 39 #[.agg ⟨cs⟩, .int .i64 1] w fun e w' => e = .returned (.int .i64 (1 + (cntFuncs x0.funcs : Int) + 3 * (x0.consts.length : Int))) ∧ Below w.heap.size w w' := by
 obtain ⟨A0, c0, A1, c1, rfl, l0, g0, l1, g1⟩ := kImageI_open hk
 have e0 : x.funcs = mkFuncS 1 x0.funcs := by rw [hx]
 have e1 : x.consts = mkConstS (1 + (cntFuncs x0.funcs : Int)) x0.consts.length := by rw [hx]
 have n0 : x.funcs.length = x0.funcs.length := by rw [e0, mkFuncS_len]
 have n1 : x.consts.length = x0.consts.length := by rw [e1, mkConstS_len]
 have hu := Try.underlying37
 have M0 := Aside0.mk ((Mem.start w).allocAt rfl #[.slice A0 x.funcs.length c0, .slice A1 x.consts.length c1] 37)
 have G0 := Aside0.mk g0; have G1 := Aside0.mk g1; have E0 := Aside0.mk e0; have E1 := Aside0.mk e1
 have N0 := Aside0.mk n0; have N1 := Aside0.mk n1
 clear hk g0 g1 l0 l1 e0 e1 hx n0 n1
 have z := M0.out.box (.head _)
 go_enter Try.func39, Try.ntmps39
 go_wp2_with fail
 clear z
 refine (heldFuncS A0 c0 x0.funcs x.funcs 1 _ (Kd.C_below G0.out M0.out.below) E0.out (by omega) (by omega) (by have := N0.out; omega)).mono ?_; rintro e w1 ⟨rfl, hb⟩
 have M1 := Aside0.mk (M0.out.step hb); clear hb M0
 have gk : decide (1 + (cntFuncs x0.funcs : Int) < 0) = false := by simp; omega
 have z := M1.out.box (.head _)
 go_wp2_with fail
 clear z
 have D := heldConstS A1 c1 x0.consts.length x.consts (1 + (cntFuncs x0.funcs : Int)) _ (Kd.C_below G1.out M1.out.below) E1.out (by omega) (by have := N1.out; omega)
 rw [show (1 + (cntFuncs x0.funcs : Int) + 3 * (x.consts.length : Int)) = 1 + (cntFuncs x0.funcs : Int) + 3 * (x0.consts.length : Int) from by rw [N1.out]] at D
 refine D.mono ?_; clear D; rintro e w2 ⟨rfl, hb⟩
 have M2 := Aside0.mk (M1.out.step hb); clear hb M1
 have gk2 : decide (1 + (cntFuncs x0.funcs : Int) + 3 * (x0.consts.length : Int) < 0) = false := by simp; omega
 go_wp2
 go_ret
 exact ⟨rfl, M2.out.below⟩
end Go.Proofs.Ytcbaokflimdjnaa
end
section
namespace Go.Proofs.Ytcbaokflimdjnaa.LawFnExactReadImage
open Go.RowKit Go.Proofs.YtcbaokflimdjnaaW.PrintWords Go.Proofs.YtcbaokflimdjnaaW.PrintLast Go.Proofs.Ytcbaokflimdjnaa.Steps Go.Proofs.YtcbaokflimdjnaaW.PrintMore Go.Proofs.Ytcbaokflimdjnaa.Law Go.Proofs.Ytcbaokflimdjnaa.Num Go.Proofs.Ytcbaokflimdjnaa
theorem ri_len {F : Image → ByteArray × Bool} (hF : TextOf F) (t s : ByteArray) (ok : Bool) : LenImage (riR F t s ok).1 := by
 have no : LenImage (⟨[], []⟩ : Image) := ⟨Nat.zero_le _, fun y hy => absurd hy List.not_mem_nil, Nat.zero_le _⟩
 have yes : ∀ x : Image, LenImage (riA F t x).1 := by
  intro x
  unfold riA
  split
  ·rename_i h
   cases hi : imgB x with
   | false => rw [(hF x).1 hi] at h; cases h.1
   | true =>
    have hl := img_len hi
    refine ⟨by show x.funcs.length ≤ _; omega, fun y hy => ?_, by show x.consts.length ≤ _; omega⟩
    have ok := FOk.of (img_func hi hy)
    have h1 := ok.caps; have h2 := ok.code; have h3 := ok.hands
    exact ⟨by omega, by omega, by omega⟩
  ·exact no
 unfold riR
 split
 ·split
  ·exact yes _
  ·exact no
 ·exact no
theorem cnt_big {l : List Func} (h : ∀ y ∈ l, LenFunc y) : cntFuncs l ≤ l.length * 8388610 := by
 unfold cntFuncs
 induction l with
 | nil => simp
 | cons a l ih =>
  rw [List.map_cons, List.sum_cons, List.length_cons]
  have h1 := ih (fun y hy => h y (List.mem_cons_of_mem _ hy))
  have h2 := h a List.mem_cons_self
  unfold LenFunc at h2
  have h3 : cntFunc a ≤ 8388610 := by unfold cntFunc; omega
  omega
set_option maxHeartbeats 8000000 in
set_option maxRecDepth 100000 in
theorem w1 (t : ByteArray) (w : World) (n1 : 1048576 < (t.size : Int)) :
  Calls Try.prog 11 #[.string t] w fun e w' => e = .returned (.bool true) ∧ Below w.heap.size w w' := by
 have HB := Aside0.mk (Below.refl w.heap.size w)
 go_enter Try.func11, Try.ntmps11
 go_wp2
 go_ret
 exact ⟨rfl, HB.out⟩
set_option maxHeartbeats 8000000 in
set_option maxRecDepth 100000 in
theorem w2 (t : ByteArray) (w : World) (n1 : ¬ 1048576 < (t.size : Int)) :
  Calls Try.prog 11 #[.string t] w fun e w' => e = .returned (.bool true) ∧ Below w.heap.size w w' := by
 obtain ⟨s, ok, hs, hUS, hUI⟩ := unseal_of t (by omega)
 obtain ⟨F, hF⟩ := text_of
 have HS := Aside0.mk (cReadS F hF t s ok hs hUS); have HI := Aside0.mk (cReadI F hF t s ok hs hUI)
 have hlr := ri_len hF t s ok
 generalize riR F t s ok = rr at HS HI hlr
 obtain ⟨r, u⟩ := rr
 have HLR := Aside0.mk hlr
 clear hlr hUS hUI hF
 simp only at HLR
 have hu := Try.underlying37
 have hbb : (u != u) = false := by simp
 have M0 := Aside0.mk (Mem.start w)
 go_enter Try.func11, Try.ntmps11
 go_wp2_with fail
 refine (HS.out _).mono ?_; rintro e w21 ⟨ds, rfl, hm, hb⟩; obtain ⟨qW, dW, pW, eW, rfl, _, _, _, _⟩ := kImageI_open (kImageI.K_of_M hm)
 have M21 := Aside0.mk ((M0.out.push hb hm).allocAt rfl #[.slice qW r.funcs.length dW, .slice pW r.consts.length eW] 37); clear hm hb M0
 go_wp2_with fail
 refine (HI.out _).mono ?_; rintro e w22 ⟨ds, rfl, hm, hb⟩; obtain ⟨qg, dg, pg, eg, rfl, _, _, _, _⟩ := kImageI_open (kImageA_K _ r _ ▸ kImageA.K_of_M hm)
 have M22 := Aside0.mk ((M21.out.push hb hm).allocAt rfl #[.slice qg r.funcs.length dg, .slice pg r.consts.length eg] 37); clear hm hb M21
 have z_bg := M22.out.box (.head _)
 have z_bW := M22.out.box (.tail _ (.tail _ (.head _)))
 go_wp2_with fail
 clear z_bg z_bW
 have C := eqImage r r _ _ _ (kImageA_K _ r _ ▸ M22.out.read (.tail _ (.head _))) (M22.out.read (.tail _ (.tail _ (.tail _ (.head _)))))
 rw [decide_eq_true rfl] at C
 refine C.mono ?_; clear C; rintro e w23 ⟨rfl, hb⟩
 have M23 := Aside0.mk (M22.out.step hb); clear hb M22
 obtain ⟨k2, hk2⟩ : ∃ k2 : Int, k2 = 1 + (cntFuncs r.funcs : Int) + 3 * (r.consts.length : Int) := ⟨_, rfl⟩
 have hkc : 0 ≤ k2 ∧ k2 ≤ 17592186044416 := by
  have h1 := cnt_big HLR.out.2.1; have h2 := HLR.out.1; have h3 := HLR.out.2.2
  have h4 : r.funcs.length * 8388610 ≤ 1048576 * 8388610 := Nat.mul_le_mul_right _ h2
  omega
 have HK2 := Aside0.mk hk2; clear hk2
 have z_bg := M23.out.box (.head _)
 go_wp2_with fail
 clear z_bg
 have hv := M23.out.val (.tail _ (.head _)); have hf := M23.out.fits _ (.tail _ (.head _))
 have C := markImage r _ 1 w _ _ _ M23.out.below hf.1 (fun b hb => Nat.lt_of_lt_of_le hb.2 hf.2) hv (by omega) (by have := HK2.out; omega) HLR.out.1; clear hv hf
 rw [← HK2.out] at C
 refine C.mono ?_; clear C; rintro e w24 ⟨rfl, hv, hb, hk⟩
 have M24 := Aside0.mk (Mem.mark (A := [_]) M23.out hb hk hv); clear hv hb hk M23
 have z_bg := M24.out.box (.head _)
 go_wp2_with fail
 clear z_bg
 have C := heldImage r _ _ _ (kImageA_K _ _ _ ▸ M24.out.read (.tail _ (.head _))) rfl (by have := HK2.out; omega) HLR.out.1
 rw [← HK2.out] at C
 refine C.mono ?_; clear C; rintro e w25 ⟨rfl, hb⟩
 have M25 := Aside0.mk (M24.out.step hb); clear hb M24
 have gq : decide (k2 < 0) = false := by simp; omega
 have gn : (k2 != k2) = false := by simp
 go_wp2_with fail
 refine (HI.out _).mono ?_; rintro e w26 ⟨ds, rfl, hm, hb⟩; obtain ⟨qH, dH, pH, eH, rfl, _, _, _, _⟩ := kImageI_open (kImageA_K _ r _ ▸ kImageA.K_of_M hm)
 have M26 := Aside0.mk ((M25.out.push hb hm).allocAt rfl #[.slice qH r.funcs.length dH, .slice pH r.consts.length eH] 37); clear hm hb M25
 have z_bH := M26.out.box (.head _)
 have z_bW := M26.out.box (.tail _ (.tail _ (.tail _ (.tail _ (.head _)))))
 go_wp2_with fail
 clear z_bH z_bW
 have C := eqImage r r _ _ _ (kImageA_K _ r _ ▸ M26.out.read (.tail _ (.head _))) (M26.out.read (.tail _ (.tail _ (.tail _ (.tail _ (.tail _ (.head _)))))))
 rw [decide_eq_true rfl] at C
 refine C.mono ?_; clear C; rintro e w27 ⟨rfl, hb⟩
 have M27 := Aside0.mk (M26.out.step hb); clear hb M26
 have z_bg := M27.out.box (.tail _ (.tail _ (.head _)))
 go_wp2_with fail
 clear z_bg
 have C := heldImage r _ _ _ (kImageA_K _ _ _ ▸ M27.out.read (.tail _ (.tail _ (.tail _ (.head _))))) rfl (by have := HK2.out; omega) HLR.out.1
 rw [← HK2.out] at C
 refine C.mono ?_; clear C; rintro e w28 ⟨rfl, hb⟩
 have M28 := Aside0.mk (M27.out.step hb); clear hb M27
 go_wp2
 go_ret
 exact ⟨rfl, M28.out.below⟩
theorem law (t : ByteArray) (w : World) (hg : t.size ≤ maxLen) : Calls Try.prog 11 #[.string t] w fun e w' => e = .returned (.bool true) ∧ Below w.heap.size w w' := by
 by_cases n1 : 1048576 < (t.size : Int)
 ·exact w1 t w n1
 ·exact w2 t w n1
end Go.Proofs.Ytcbaokflimdjnaa.LawFnExactReadImage
end
section
namespace Go.Proofs.Ytcbaokflimdjnaa.Open
open Go.Proofs.YtcbaokflimdjnaaW.PrintWords Go.ChangeShapes Go.WideShapes
section
variable {H : Type} {enc : TypeId × Value → H} {P : Program} {w : World} {base : Nat} {spare : Nat → Bool} {held : Bool}
def Opens {α : Type} (enc : TypeId × Value → H) (P : Program) (w : World) (base : Nat) (spare : Nat → Bool) (held : Bool) (t : TypeId) (d : Kd α) (G : α → Prop) : Prop :=
 ∀ (fuel : Nat) (cs : List Value) (x : DataW H × List MemPlace), DataW.trod enc P w base spare held fuel t cs = some x → ∃ a, d.K w a cs ∧ G a
theorem opens_string {t : TypeId} (ht : P.underlying t = some .string) : Opens enc P w base spare held t Kd.string (fun s => s.size ≤ maxLen) := by
 intro fuel cs x h
 obtain ⟨s, rfl, _, hw⟩ := DataW.trod_string ht h
 exact ⟨s, rfl, hw⟩
theorem opens_arg {α : Type} {t : TypeId} {d : Kd α} {G : α → Prop} {v : Value} {dd : DataW H} {p : List MemPlace} (ho : Opens enc P w base spare held t d G) (h : DataW.Trod enc P w base spare held t v dd p) : ∃ a, d.K w a v.cells.toList ∧ G a := by
 obtain ⟨fuel, hf⟩ := h
 exact ho _ _ _ hf
end
end Go.Proofs.Ytcbaokflimdjnaa.Open
end
