/- Part 21 of the proof: general lemmas, contracts of functions, walks. No condition of its own. -/
import Derived.WalkKit
import Derived.KernelRfl
import Derived.Deep.LoopGhost
import Derived.Deep.QuietTactic
import Derived.BigQuiet
import Derived.RowKit3
import Derived.Deep.RegionWith
import Derived.Deep.RegionHeld3
import Derived.WalkLawsBesides
import Derived.Test.YtcbaokflimdjnaaSts20
import Derived.Test.YtcbaokflimdjnaaSts11
import Derived.Test.YtcbaokflimdjnaaSts2
import Derived.Test.YtcbaokflimdjnaaSts5
section
namespace Go.Proofs.Ytcbaokflimdjnaa.Flow
open Go.RowKit Go.Proofs.YtcbaokflimdjnaaW.PrintWords Go.Proofs.YtcbaokflimdjnaaW.PrintLast Go.Proofs.Ytcbaokflimdjnaa.Steps Go.Proofs.YtcbaokflimdjnaaW.PrintMore Go.Proofs.Ytcbaokflimdjnaa.Law Go.Proofs.Ytcbaokflimdjnaa Go.Proofs.Ytcbaokflimdjnaa.QFnExactVerify Go.Proofs.Ytcbaokflimdjnaa.Num Go.Proofs.Ytcbaokflimdjnaa.PureJoin
set_option linter.unusedVariables false
set_option linter.unusedSimpArgs false
set_option autoImplicit false
def statesI.T3 : Bool × List (List Nat × List Nat) := (true, [([], []), ([], []), ([], []), ([2, 2], [2]), ([], []), ([4, 4], [4]), ([0, 1, 3, 5], [0, 1, 3, 5]), ([6], [6]), ([7, 0, 1, 2, 3, 4, 5, 6, 7], [7])])
def statesI.B3 : List Nat := [0, 0, 0, 4, 0, 16, 63, 127, 255]
theorem statesI.tab3 : rtab .any (opsOf Try.f67 3) = statesI.T3 := by kernel_rfl
theorem statesI.bits3 : waitsOk statesI.T3.2 statesI.B3 = true := by kernel_rfl
def statesI.T17 : Bool × List (List Nat × List Nat) := (true, [([], []), ([0], [0]), ([1], [1]), ([2], [2]), ([], []), ([4], [4]), ([5], [5]), ([6], [6]), ([3, 0, 1, 2, 3], [3]), ([7, 8, 0, 1, 2, 3, 4, 5, 6, 7, 8], [7]), ([9, 0, 1, 2, 3, 4, 5, 6, 7, 8, 9], [])])
def statesI.B17 : List Nat := [0, 1, 3, 7, 0, 16, 48, 112, 15, 511, 1023]
theorem statesI.tab17 : rtab .any (opsOf Try.f67 17) = statesI.T17 := by kernel_rfl
theorem statesI.bits17 : waitsOk statesI.T17.2 statesI.B17 = true := by kernel_rfl
set_option maxHeartbeats 8000000 in
set_option maxRecDepth 100000 in
theorem cStates (x : Image) (j : Nat) (ok : FnOk x (el zFunc x.funcs j)) (hj : j < x.funcs.length) (gx : Nat) (fa : Addr) (c0 : Nat) (A1 : Option Addr) (c1 : Nat) (w : World) (hx0 : w.cell? ⟨gx, 0, none⟩ = some (.slice (some fa) x.funcs.length c0)) (hx1 : w.cell? ⟨gx, 1, none⟩ = some (.slice A1 x.consts.length c1)) (g0 : kFuncI.C w (some fa) x.funcs.length x.funcs) :
    Calls Try.prog 67 #[.pointer (some ⟨gx, 0, none⟩), .int .i64 j] w fun e w' => ∃ v1 v2, e = .returned (.tuple #[v1, v2, .bool (!(final x (el zFunc x.funcs j)).bad)]) ∧ ((final x (el zFunc x.funcs j)).bad = true → v1 = .slice none 0 0 ∧ v2 = .slice none 0 0) ∧ ((final x (el zFunc x.funcs j)).bad = false → Kd.S kStateI 31 w' w.heap.size (fun _ => True) v1 (final x (el zFunc x.funcs j)).list ∧ Kd.bool.R 4 w' w.heap.size (fun _ => True) v2 (final x (el zFunc x.funcs j)).reached) ∧ Below w.heap.size w w' := by
  have hu := Try.underlying31; have hu1 := Try.underlying48; have hu2 := Try.underlying73; have hu3 := Try.underlying26; have hu4 := Try.underlying49; have hu5 := Try.underlying34; have hu6 := Try.underlying37; have hu7 := Try.underlying149; have hu8 := Try.underlying70
  obtain ⟨fa0, A2, c2, A3, c3, A4, c4, hfa, x0, x1, x2, x3, x4, hcap, hcode, hhan⟩ := func_at5 g0 j hj
  cases hfa
  have HGO := Aside0.mk (fun (g lo : Nat) (W : World) (r : Fl) (vl vr vt : Value) (hr : Run 149 #[.pointer (some ⟨gx, 0, none⟩), .pointer (some (fa.add (j * 5))), vl, vr, vt, .bool r.bad] 0 g lo w W r vl vr vt) (hI : Inv (el zFunc x.funcs j).code.length (el zFunc x.funcs j).regs.toNat r) (p : Nat) (hp : p < (el zFunc x.funcs j).code.length) (hpr : el false r.reached p = true) => cGo1 x j ok hj gx fa c0 A1 c1 g lo w W hx0 hx1 g0 r vl vr vt hr hI p hp hpr)
  have hj0 : (0 : Int) ≤ (j : Int) := by omega
  have hj1 : (j : Int) < (x.funcs.length : Int) := by omega
  obtain ⟨f, hfe⟩ : ∃ f, f = el zFunc x.funcs j := ⟨_, rfl⟩
  rw [← hfe] at x0 x1 x3 HGO ok ⊢
  have F0 := Aside0.mk x0; have F1 := Aside0.mk x1; have F3 := Aside0.mk x3
  have hkl := ok.kl; have hhl := ok.hl; have hrg := ok.rg; have hpm := ok.pr
  clear hfe g0 hx1 hcap hcode hhan x0 x1 x2 x4 ok hj
  obtain ⟨n, hn⟩ : ∃ n : Nat, n = f.code.length := ⟨_, rfl⟩
  have HN := Aside0.mk hn
  rw [← hn] at x3 hkl
  clear hn
  go_enter Try.func67, Try.ntmps67
  go_upto_region 3 with fail
  clear x3 hx0
  go_cut [9] (fun u wx => ∃ (g : Nat) (vl vr : Value) (W3 : World), u = .pointer (some ⟨g, 0, none⟩) ∧ Aside0 (W3 = wx) ∧ Aside0 (Run 149 #[.pointer (some ⟨gx, 0, none⟩), .pointer (some (fa.add (j * 5))), vl, vr, .slice none 0 0, .bool false] 0 g w.heap.size w W3 (blank f) vl vr (.slice none 0 0)))
  case first =>
    refine sz 9 (fun _ => True) [] statesI.tab3 statesI.bits3 trivial (fun HT_ HW_ hHeld => ?_)
    have CD := Aside0.mk (below_drew1 (Below.refl w.heap.size w))
    refine pz 0 24 ?_; refine pz 1 25 ?_; refine pz 2 26 ?_; refine pz 4 28 ?_
    refine twz 3 5 (some 27) (some 29) (fun K hK => ?_) (fun K hK => ?_)
    · skip
      refine Kd.R_make_step (Kd.bare kStateI) (w0 := _) _ 31 (by rfl) (N := 27) rfl 48 (.tmp 26) (.tmp 26) rfl (n : Int) (by rfl) (by rfl) Try.underlying48 (.agg #[.int .i64 0, .slice none 0 0]) 32 (by kernel_rfl) rfl (by decide) (by omega) zState (ok := fun _ => True) (okp := fun _ => True) (kStateI_mkM _ _ _ zState (Kd.R_nil _ _ _ _ _)) (fun _ hk => hk) trivial (by omega) (by omega) (Below.refl _ _) (Nat.le_refl _) ?_
      intro vL m0 ho hb hg_ hnew_; clear hg_ hnew_
      rw [Int.toNat_natCast] at ho
      obtain ⟨AL, yL, hv⟩ := Kd.R_slice ho; rw [List.length_replicate] at hv; subst hv
      have HL := Aside0.mk (Kd.R_lower ho (CD.out).size)
      have C0 := Aside0.mk (below_step CD.out hb)
      clear ho hb
      refine hK.out _ _ trivial (fun hHeld => ?_); clear hK K; refine kz (some 27) ?_
      refine ez 5 (some 29) (fun K hK => ?_)
      refine Kd.R_make_step Kd.bool (w0 := m0) _ 4 (by rfl) (N := 29) rfl 49 (.tmp 28) (.tmp 28) rfl (n : Int) (by rfl) (by rfl) Try.underlying49 (.bool false) 1 (by kernel_rfl) rfl (by decide) (by omega) false (ok := fun _ => True) (okp := fun _ => True) rfl (fun _ hk => hk) trivial (by omega) (by omega) (Below.refl _ _) (Nat.le_refl _) ?_
      intro vB m1 ho hb hg_ hnew_; clear hg_ hnew_
      rw [Int.toNat_natCast] at ho
      obtain ⟨AB, yB, hv⟩ := Kd.R_slice ho; rw [List.length_replicate] at hv; subst hv
      have HB := Aside0.mk (Kd.R_lower ho (C0.out).size)
      have C1 := Aside0.mk (below_step C0.out hb)
      have HL := Aside0.mk (Kd.R_below HL.out hb)
      clear ho hb
      refine hK.out _ _ trivial (fun hHeld => ?_); clear hK K; refine kz (some 29) ?_
      refine pz 6 30 ?_
      refine ez 7 (some 31) (fun K hK => ?_)
      refine box_step ?hg (N := 31) ?hd (cs := #[.pointer (some ⟨gx, 0, none⟩), .pointer (some (fa.add (j * 5))), (.slice AL n yL), (.slice AB n yB), .slice none 0 0, .bool false]) (t := 149) ?hr ?_; (case hd => rfl); (case hg => rfl); (case hr => first | (go_simp; done) | (go_simp; rfl))
      intro g hg m9 hbx hbb
      have C9 := Aside0.mk (below_step C1.out hbb)
      have RS := Kd.S_bare (Kd.R_below (Kd.R_bound HL.out) hbb); have RL := Kd.S_R RS; have RB := Kd.R_below (Kd.R_bound HB.out) hbb
      have RR := Aside0.mk (show Run 149 #[.pointer (some ⟨gx, 0, none⟩), .pointer (some (fa.add (j * 5))), (.slice AL n yL), (.slice AB n yB), .slice none 0 0, .bool false] 0 g w.heap.size w m9 (blank f) (.slice AL n yL) (.slice AB n yB) (.slice none 0 0) from ⟨C9.out, Nat.le_refl _, by rw [hg]; exact C1.out.size, hbx, Kd.R_mono (show kStateI.R _ m9 _ _ (.slice AL n yL) (blank f).list by unfold blank; rw [← HN.out]; exact RL) (fun k hk => ⟨by have := hk.2.2.1; omega, by simp [Value.ownBlock]⟩), Kd.R_mono (show Kd.bool.R _ m9 _ _ (.slice AB n yB) (blank f).reached by unfold blank; rw [← HN.out]; exact RB) (fun k hk => by have := hk.2.2.1; omega), Kd.Q_nil _ _ _ _ _, fun _ => Kd.S_mono (show Kd.S kStateI _ m9 _ _ (.slice AL n yL) (blank f).list by unfold blank; rw [← HN.out]; exact RS) (fun k hk => ⟨by have := hk.2.2.1; omega, by simp [Value.ownBlock]⟩)⟩)
      clear hg hbx hbb RL RB
      refine hK.out _ _ trivial (fun hHeld => ?_); clear hK K; refine kz (some 31) ?_
      refine pz 8 9 ?_
      refine dz ?_
      try go_wp2_with fail
      go_meet
      exact ⟨_, _, _, _, rfl, ⟨rfl⟩, RR⟩
    · skip
      refine Kd.R_make_step Kd.bool (w0 := _) _ 4 (by rfl) (N := 29) rfl 49 (.tmp 28) (.tmp 28) rfl (n : Int) (by rfl) (by rfl) Try.underlying49 (.bool false) 1 (by kernel_rfl) rfl (by decide) (by omega) false (ok := fun _ => True) (okp := fun _ => True) rfl (fun _ hk => hk) trivial (by omega) (by omega) (Below.refl _ _) (Nat.le_refl _) ?_
      intro vB m0 ho hb hg_ hnew_; clear hg_ hnew_
      rw [Int.toNat_natCast] at ho
      obtain ⟨AB, yB, hv⟩ := Kd.R_slice ho; rw [List.length_replicate] at hv; subst hv
      have HB := Aside0.mk (Kd.R_lower ho (CD.out).size)
      have C0 := Aside0.mk (below_step CD.out hb)
      clear ho hb
      refine hK.out _ _ trivial (fun hHeld => ?_); clear hK K; refine kz (some 29) ?_
      refine ez 3 (some 27) (fun K hK => ?_)
      refine Kd.R_make_step (Kd.bare kStateI) (w0 := m0) _ 31 (by rfl) (N := 27) rfl 48 (.tmp 26) (.tmp 26) rfl (n : Int) (by rfl) (by rfl) Try.underlying48 (.agg #[.int .i64 0, .slice none 0 0]) 32 (by kernel_rfl) rfl (by decide) (by omega) zState (ok := fun _ => True) (okp := fun _ => True) (kStateI_mkM _ _ _ zState (Kd.R_nil _ _ _ _ _)) (fun _ hk => hk) trivial (by omega) (by omega) (Below.refl _ _) (Nat.le_refl _) ?_
      intro vL m1 ho hb hg_ hnew_; clear hg_ hnew_
      rw [Int.toNat_natCast] at ho
      obtain ⟨AL, yL, hv⟩ := Kd.R_slice ho; rw [List.length_replicate] at hv; subst hv
      have HL := Aside0.mk (Kd.R_lower ho (C0.out).size)
      have C1 := Aside0.mk (below_step C0.out hb)
      have HB := Aside0.mk (Kd.R_below HB.out hb)
      clear ho hb
      refine hK.out _ _ trivial (fun hHeld => ?_); clear hK K; refine kz (some 27) ?_
      refine pz 6 30 ?_
      refine ez 7 (some 31) (fun K hK => ?_)
      refine box_step ?hg (N := 31) ?hd (cs := #[.pointer (some ⟨gx, 0, none⟩), .pointer (some (fa.add (j * 5))), (.slice AL n yL), (.slice AB n yB), .slice none 0 0, .bool false]) (t := 149) ?hr ?_; (case hd => rfl); (case hg => rfl); (case hr => first | (go_simp; done) | (go_simp; rfl))
      intro g hg m9 hbx hbb
      have C9 := Aside0.mk (below_step C1.out hbb)
      have RS := Kd.S_bare (Kd.R_below (Kd.R_bound HL.out) hbb); have RL := Kd.S_R RS; have RB := Kd.R_below (Kd.R_bound HB.out) hbb
      have RR := Aside0.mk (show Run 149 #[.pointer (some ⟨gx, 0, none⟩), .pointer (some (fa.add (j * 5))), (.slice AL n yL), (.slice AB n yB), .slice none 0 0, .bool false] 0 g w.heap.size w m9 (blank f) (.slice AL n yL) (.slice AB n yB) (.slice none 0 0) from ⟨C9.out, Nat.le_refl _, by rw [hg]; exact C1.out.size, hbx, Kd.R_mono (show kStateI.R _ m9 _ _ (.slice AL n yL) (blank f).list by unfold blank; rw [← HN.out]; exact RL) (fun k hk => ⟨by have := hk.2.2.1; omega, by simp [Value.ownBlock]⟩), Kd.R_mono (show Kd.bool.R _ m9 _ _ (.slice AB n yB) (blank f).reached by unfold blank; rw [← HN.out]; exact RB) (fun k hk => by have := hk.2.2.1; omega), Kd.Q_nil _ _ _ _ _, fun _ => Kd.S_mono (show Kd.S kStateI _ m9 _ _ (.slice AL n yL) (blank f).list by unfold blank; rw [← HN.out]; exact RS) (fun k hk => ⟨by have := hk.2.2.1; omega, by simp [Value.ownBlock]⟩)⟩)
      clear hg hbx hbb RL RB
      refine hK.out _ _ trivial (fun hHeld => ?_); clear hK K; refine kz (some 31) ?_
      refine pz 8 9 ?_
      refine dz ?_
      try go_wp2_with fail
      go_meet
      exact ⟨_, _, _, _, rfl, ⟨rfl⟩, RR⟩
  case rest =>
  obtain ⟨g, vl, vr, W3, rfl, HW3, R3⟩ := hcut
  have hw3 := HW3.out; subst hw3; clear HW3
  obtain ⟨R, hR⟩ : ∃ R : Nat, f.regs = R := ⟨f.regs.toNat, by omega⟩
  obtain ⟨pm, hpme⟩ : ∃ pm : Nat, f.params = pm := ⟨f.params.toNat, by omega⟩
  have M3 := Aside0.mk (Mem.start W3)
  have y1 := pw_cell_below R3.out.below F1.out
  rw [hR] at y1
  have HRE := Aside0.mk hR; have HPM := Aside0.mk hpme
  have hR40 : R ≤ 40 := by omega
  have hpR : pm ≤ R := by omega
  clear hR hpme
  go_wp2_with (refine Kd.R_make (Kd.int .i64) _ 3 rfl (N := _) rfl _ _ _ rfl (R : Int) rfl rfl Try.underlying26 (.int .i64 0) 8 (by kernel_rfl) rfl (by decide) (by omega) (0 : Int) (ok := fun _ => True) (okp := fun _ => True) rfl (fun _ hk => hk) trivial (by omega) (by omega) (Below.refl _ _) (Nat.le_refl _) ?_; intro v4 w4 ho hb hg_ hnew_; clear hg_ hnew_; have HO4 := Aside0.mk ho; have HB4 := Aside0.mk hb; clear ho hb; refine Aside0.out ?_)
  refine ⟨?_⟩
  have ho4 := HO4.out
  rw [Int.toNat_natCast] at ho4
  obtain ⟨A4b, y4, hv4⟩ := Kd.R_slice ho4
  rw [List.length_replicate] at hv4; subst hv4
  have M4 := Aside0.mk (M3.out.pushR HB4.out ho4); clear M3 ho4 y1
  obtain ⟨g10, hg10⟩ : ∃ g10 : Nat, g10 = w4.heap.size := ⟨_, rfl⟩
  have M5 := Aside0.mk (M4.out.allocAt hg10 #[.int .i64 0, .slice A4b R y4] 31); clear M4
  have y0 := pw_cell_below (R3.out.step M5.out.below).below F0.out
  rw [HPM.out] at y0
  go_upto_region 6 with fail
  rw [← hg10]
  have HG10 := Aside0.mk hg10; clear hg10 y0
  generalize w4.alloc (.cells #[.int .i64 0, .slice A4b R y4] 31) = w5 at M5 ⊢
  have HE0 := Aside0.mk (show List.replicate R (0 : Int) = filled R 0 from by unfold filled; simp)
  rw [HE0.out] at M5
  clear HO4 HB4
  generalize hlo4 : W3.heap.size = lo4 at M5
  generalize w4.heap.size = hi4 at M5
  go_loopw [42] (fun v wx => ∃ q : Nat, v = .int .i64 q ∧ q ≤ pm ∧ Aside0 (Mem W3 wx [Hold.box g10 #[.int .i64 0, .slice A4b R y4] 31, Hold.val (Kd.slice 3 (Kd.int .i64)) lo4 hi4 (filled R q) [.slice A4b R y4]])) (fun v _ => pm - (intOf v).toNat)
  case atStart => exact ⟨0, rfl, by omega, M5⟩
  case round =>
  clear M5
  obtain ⟨q, rfl, hq, M6⟩ := hrel
  by_cases hlt : q < pm
  · have hle : (q : Int) < (pm : Int) := by omega
    have hr6 := M6.out.row (.tail _ (.head _))
    have hfl := filled_len (R := R) (q := q) (by omega)
    obtain ⟨gq, cq, hgq, hgb, hgl, _⟩ := Kd.R_form hr6 (by omega)
    rw [hfl] at hgq
    injection hgq with e1 e2 e3; subst e1; subst e3; clear e2
    obtain ⟨k0, k1⟩ := Kd.R_celln 0 hr6 (q : Int) (by omega) (by omega)
    rw [Int.toNat_natCast] at k0 k1
    obtain ⟨hp1, hp2⟩ := Kd.R_putg hr6 (q : Int) 1
    rw [Int.toNat_natCast, filled_set (by omega : q < R)] at hp1
    have hok := hr6.1 gq (by simp [Value.ownBlock])
    have hlow : W3.heap.size ≤ gq := by rw [hlo4]; exact hok.1
    have M7 := Aside0.mk (Mem.mark (A := [_]) (y := filled R (q + 1)) M6.out (below_set M6.out.below hlow) (Kept.setCell (Kept.refl _ _) (p := ⟨gq, q, none⟩) (.inl hok) (.int .i64 1)) ⟨_, rfl, hp1⟩)
    have z0 := M6.out.box (.head _)
    have hq0 : (0 : Int) ≤ (q : Int) := by omega
    have hq1 : (q : Int) < (R : Int) := by omega
    clear hr6 hp1 hp2 hok hlow hgb hgl
    clear M6
    go_wp2
    go_roundw
    case measure => simp [intOf]; omega
    case rel => exact ⟨q + 1, by go_num, by omega, M7⟩
  have hle : ¬ (q : Int) < (pm : Int) := by omega
  obtain rfl : pm = q := by omega
  have z0 := M6.out.box (.head _)
  go_wp2_with fail
  clear z0
  have hbg : begin f = ⟨0, filled R pm⟩ := by rw [begin_filled, HRE.out, HPM.out]; rfl
  have HBG := Aside0.mk hbg; clear hbg
  have HIB := Aside0.mk (blank_inv f)
  have R6 := Aside0.mk (R3.out.step M6.out.below)
  have HLW := Aside0.mk (Nat.le_trans R3.out.below.size M6.out.below.size)
  have S6 := Aside0.mk (show SOk g w.heap.size wr (.slice none 0 0) (begin f) [.int .i64 0, .slice A4b R y4] from by
    rw [HBG.out]
    refine kStateI_mkM _ _ _ ⟨0, filled R pm⟩ (Kd.R_lower (Kd.R_mono (M6.out.row (.tail _ (.head _))) (fun k hk => ⟨fun e => ?_, by simp [Value.ownBlock]⟩)) (by rw [← hlo4]; exact R3.out.below.size))
    have h1 := R3.out.lt.1
    have h2 := hk.1
    omega)
  refine (cCome 0 g w.heap.size w _ (blank f) (.pointer (some ⟨gx, 0, none⟩)) (.pointer (some (fa.add (j * 5)))) vl vr (.slice none 0 0) 0 (begin f) [.int .i64 0, .slice A4b R y4] R6.out S6.out (Nat.zero_le _) (by unfold blank; simp) (by rw [HIB.out.lr, HIB.out.ll]) (by rw [HIB.out.ll]; have := HN.out; omega) (by rw [HBG.out, filled_len hpR]; omega) (fun z hz hzr => by rw [HIB.out.rs z (by rw [HIB.out.ll] at hz; exact hz) hzr]; have := HRE.out; omega) (by omega) HLW.out).mono ?_
  rintro e w7 ⟨vt7, rfl, hR7, _, _⟩
  have R7 := Aside0.mk (show Run 149 #[.pointer (some ⟨gx, 0, none⟩), .pointer (some (fa.add (j * 5))), vl, vr, vt7, .bool (start f).bad] 0 g w.heap.size w w7 (start f) vl vr vt7 from hR7)
  clear hR7 M6 R6 S6 HLW R3
  have HI0 := Aside0.mk (start_inv (f := f) (by have := HRE.out; have := HPM.out; omega) (by have := HPM.out; omega))
  have HFIN := Aside0.mk (fun (j : Nat) (hd : done (it x f (start f) j)) => final_of (x := x) (f := f) (by have := HRE.out; have := HPM.out; omega) (by have := HPM.out; omega) hd)
  have HK0 := Aside0.mk (show (start f).k = 0 from (come_inv (p := 0) (blank_inv f) (begin_len (f := f) (by have := HRE.out; have := HPM.out; omega) (by have := HPM.out; omega))).2.kk)
  go_upto_region 12 with fail
  go_loopg [12] (meas f.regs.toNat (start f)) (fun kq v wx => ∃ (m : Nat) (vt' : Value), v = .int .i64 (it x f (start f) m).k ∧ kq = meas f.regs.toNat (it x f (start f) m) ∧ Aside0 (Run 149 #[.pointer (some ⟨gx, 0, none⟩), .pointer (some (fa.add (j * 5))), vl, vr, vt', .bool (it x f (start f) m).bad] 0 g w.heap.size w wx (it x f (start f) m) vl vr vt'))
  case atStart => exact ⟨0, vt7, by show _ = Value.int .i64 ((start f).k : Int); rw [HK0.out]; rfl, rfl, R7⟩
  case round =>
  clear R7
  obtain ⟨m, vt2, rfl, hgk, R8⟩ := hrel
  have HI8 := Aside0.mk (it_inv (x := x) (f := f) HI0.out m)
  have HSS := Aside0.mk (fun (h : ¬ done (it x f (start f) m)) => it_succ (x := x) (f := f) (r := start f) (n := m) h)
  have HFM := Aside0.mk (HFIN.out m)
  obtain ⟨rr, hrr⟩ : ∃ rr, rr = it x f (start f) m := ⟨_, rfl⟩
  rw [← hrr] at R8 HI8 HSS HFM hgk
  rw [← hrr]
  have HGK := Aside0.mk hgk; have HRR := Aside0.mk hrr; clear hgk hrr
  obtain ⟨AT, yT, hvt, hyT⟩ := Kd.Q_slice R8.out.Q
  rw [List.drop_zero] at hvt; subst hvt
  have q4 := (blk_cell R8.out.box 4).trans rfl
  have q5 := (blk_cell R8.out.box 5).trans rfl
  have hql := inv_q HI8.out (by have := HN.out; omega) (by have := HRE.out; omega)
  have fin : ∀ (hd : done rr), final x f = rr := fun hd => (HFM.out hd).symm
  have FIN := Aside0.mk fin; clear fin hyT
  rcases Bool.eq_false_or_eq_true rr.bad with hbd | hbd
  · have HF := Aside0.mk (FIN.out (.inl hbd))
    have HBD := Aside0.mk hbd
    rw [hbd] at q5
    clear hbd
    by_cases hk : rr.k < rr.queue.length
    · have hk2 : (rr.k : Int) < (rr.queue.length : Int) := by omega
      go_wp2
      go_ret3
      exact ⟨.slice none 0 0, .slice none 0 0, congrArg Ending.returned (by rw [HF.out, HBD.out]; rfl), fun _ => ⟨rfl, rfl⟩, (fun h => by rw [HF.out, HBD.out] at h; cases h), R8.out.below⟩
    · have hk2 : ¬ (rr.k : Int) < (rr.queue.length : Int) := by omega
      go_wp2
      go_ret3
      exact ⟨.slice none 0 0, .slice none 0 0, congrArg Ending.returned (by rw [HF.out, HBD.out]; rfl), fun _ => ⟨rfl, rfl⟩, (fun h => by rw [HF.out, HBD.out] at h; cases h), R8.out.below⟩
  · have HBD := Aside0.mk hbd
    rw [hbd] at q5
    clear hbd
    by_cases hk : rr.k < rr.queue.length
    · have hk2 : (rr.k : Int) < (rr.queue.length : Int) := by omega
      have hk0 : (0 : Int) ≤ (rr.k : Int) := by omega
      have hC := (Kd.Q_reads' (by have h := R8.out.Q; rw [show rr.queue.length = (rr.queue.drop 0).length from rfl] at h; exact h)).2.2
      rw [List.drop_zero] at hC
      obtain ⟨qa, rfl, hqc⟩ := int_at hC rr.k hk
      obtain ⟨h1, h2, h3⟩ := HI8.out.qs _ (el_mem 0 hk)
      obtain ⟨pp, hpp⟩ : ∃ pp : Nat, el 0 rr.queue rr.k = pp := ⟨(el 0 rr.queue rr.k).toNat, by omega⟩
      rw [hpp] at hqc h2 h3
      rw [Int.toNat_natCast] at h2 h3
      have HST := Aside0.mk (show it x f (start f) (m + 1) = stepP x f { rr with k := rr.k + 1 } pp from by
        rw [HSS.out (fun hd => by rcases hd with hd | hd; (rw [HBD.out] at hd; cases hd); omega), step_eq, hpp, Int.toNat_natCast])
      have HSK := Aside0.mk (show (stepP x f { rr with k := rr.k + 1 } pp).k = rr.k + 1 from by
        have h := (step_inv (x := x) (f := f) HI8.out hk).2.kk
        rw [step_eq, hpp, Int.toNat_natCast] at h
        exact h)
      have HSM := Aside0.mk (show meas f.regs.toNat (stepP x f { rr with k := rr.k + 1 } pp) < meas f.regs.toNat rr from by
        have h := step_meas (x := x) (f := f) HI8.out hk
        rw [step_eq, hpp, Int.toNat_natCast] at h
        exact h)
      have H2 := Aside0.mk h2; have H3 := Aside0.mk h3; have HPOP := Aside0.mk (HI8.out.pop hk)
      clear hC h1 h2 h3 hpp
      go_wp2_with fail
      refine (HGO.out g w.heap.size _ { rr with k := rr.k + 1 } vl vr (.slice (some qa) rr.queue.length yT) (R8.out.as rfl rfl rfl) HPOP.out pp H2.out H3.out).mono ?_
      rintro e w9 ⟨vt9, rfl, hR9⟩
      have R9 := Aside0.mk hR9; clear hR9 hqc q4 q5
      go_wp2
      go_roundg (meas f.regs.toNat (stepP x f { rr with k := rr.k + 1 } pp))
      case measure => have h1 := HSM.out; have h2 := HGK.out; omega
      case rel => exact ⟨m + 1, vt9, by rw [HST.out, HSK.out]; go_num, by rw [HST.out], by rw [HST.out]; exact R9⟩
    · have hk2 : ¬ (rr.k : Int) < (rr.queue.length : Int) := by omega
      have HF := Aside0.mk (FIN.out (.inr (by omega)))
      go_upto_region 17 with fail
      clear q4 q5
      refine sz 11 (fun W => W.cell? ⟨g, 2, none⟩ = some vl ∧ W.cell? ⟨g, 3, none⟩ = some vr) [] statesI.tab17 statesI.bits17 ⟨(blk_cell (show (World.drew _).heap[g]? = _ from R8.out.box) 2).trans rfl, (blk_cell (show (World.drew _).heap[g]? = _ from R8.out.box) 3).trans rfl⟩ (fun HT_ HW_ hHeld => ?_)
      refine pz 0 82 ?_; refine pz 1 83 ?_; refine pz 2 84 ?_; refine pz 4 86 ?_; refine pz 5 87 ?_; refine pz 6 88 ?_; refine tz 3 85 ?_; refine pz 8 4 ?_; refine tz 7 89 ?_; refine pz 9 5 ?_; refine pz 10 6 ?_
      refine dz ?_
      go_wp2
      go_ret3
      exact ⟨vl, vr, congrArg Ending.returned (by rw [HF.out, HBD.out]; rfl), (fun h => by rw [HF.out, HBD.out] at h; cases h), fun _ => by rw [HF.out]; exact ⟨Kd.S_mono (Kd.S_drew (R8.out.S rfl)) (fun _ _ => trivial), Kd.R_mono (Kd.R_drew R8.out.B) (fun _ _ => trivial)⟩, below_drew1 R8.out.below⟩
end Go.Proofs.Ytcbaokflimdjnaa.Flow
end
section
namespace Go.Proofs.Ytcbaokflimdjnaa.Flow
open Go.RowKit Go.Proofs.YtcbaokflimdjnaaW.PrintWords Go.Proofs.YtcbaokflimdjnaaW.PrintLast Go.Proofs.Ytcbaokflimdjnaa.Steps Go.Proofs.YtcbaokflimdjnaaW.PrintMore Go.Proofs.Ytcbaokflimdjnaa.Law Go.Proofs.Ytcbaokflimdjnaa Go.Proofs.Ytcbaokflimdjnaa.QFnExactVerify Go.Proofs.Ytcbaokflimdjnaa.Num Go.Proofs.Ytcbaokflimdjnaa.PureJoin
set_option linter.unusedVariables false
set_option linter.unusedSimpArgs false
set_option autoImplicit false
def okFn (x : Image) (fn : Int) : Bool := imgB x && Img.inB fn 0 ((x.funcs.length : Int) - 1)
def flowOf (x : Image) (fn : Int) : Fl := final x (el zFunc x.funcs fn.toNat)
def stOk (x : Image) (fn : Int) : Bool := okFn x fn && !(flowOf x fn).bad
def stList (x : Image) (fn : Int) : List State := if stOk x fn = true then (flowOf x fn).list else []
def stReached (x : Image) (fn : Int) : List Bool := if stOk x fn = true then (flowOf x fn).reached else []
/-- No state has more registers than R. -/
def Small (R : Nat) (r : Fl) : Prop := ∀ y ∈ r.list, y.regs.length ≤ R
theorem Small.at {R : Nat} {r : Fl} (h : Small R r) (p : Nat) : (el zState r.list p).regs.length ≤ R := by
  by_cases hp : p < r.list.length
  · exact h _ (el_mem zState hp)
  · have : el zState r.list p = zState := by unfold el; rw [List.getD_eq_getElem?_getD, List.getElem?_eq_none (by omega)]; rfl
    rw [this]; exact Nat.zero_le _
theorem Small.set {R : Nat} {l : List State} (h : ∀ y ∈ l, y.regs.length ≤ R) (p : Nat) {s : State} (hs : s.regs.length ≤ R) : ∀ y ∈ l.set p s, y.regs.length ≤ R := fun y hy => by
  rcases List.mem_or_eq_of_mem_set hy with hy | rfl
  · exact h y hy
  · exact hs
theorem come_small {R : Nat} {r : Fl} {p : Nat} {s : State} (h : Small R r) (hs : s.regs.length ≤ R) : Small R (come r p s) := by
  unfold come
  split
  · exact h
  · split
    · split
      · exact h
      · refine Small.set h p ?_
        show (joined _ _).length ≤ R
        have := h.at p
        rw [joined_length]
        omega
    · exact Small.set h p hs
theorem hands_small {R : Nat} {r : Fl} {hs : List Handler} {p : Int} {s : State} (h : Small R r) (hl : s.regs.length ≤ R) : ∀ j, Small R (handsTo hs p s r j)
  | 0 => h
  | j + 1 => by
    unfold handsTo
    split
    · exact come_small (hands_small h hl j) hl
    · exact hands_small h hl j
theorem step_small {R : Nat} {r : Fl} {x : Image} {f : Func} (h : Small R r) : Small R (step x f r) := by
  have hs : (el zState r.list (el 0 r.queue r.k).toNat).regs.length ≤ R := h.at _
  have h1 : Small R (handsTo f.handlers ((el 0 r.queue r.k).toNat : Int) (el zState r.list (el 0 r.queue r.k).toNat) { r with k := r.k + 1 } f.handlers.length) := hands_small (r := { r with k := r.k + 1 }) h hs _
  have ha : (afterS (el zIns f.code (el 0 r.queue r.k).toNat) (el zState r.list (el 0 r.queue r.k).toNat)).regs.length ≤ R := by rw [after_len]; exact hs
  unfold step
  simp only
  split
  · unfold next jump
    split <;> split <;> first | exact h1 | exact come_small h1 ha | exact come_small (come_small h1 ha) ha
  · exact h1
theorem it_small {R : Nat} {r : Fl} {x : Image} {f : Func} (h : Small R r) : ∀ j, Small R (it x f r j)
  | 0 => h
  | j + 1 => by
    unfold it
    split
    · exact it_small h j
    · exact step_small (it_small h j)
theorem final_small {x : Image} {f : Func} (h : f.params ≤ f.regs) (h0 : 0 ≤ f.params) : Small f.regs.toNat (final x f) := by
  refine it_small (come_small (fun y hy => ?_) ?_) _
  · rw [List.eq_of_mem_replicate hy]; exact Nat.zero_le _
  · rw [begin_len h h0]; exact Nat.le_refl _
theorem final_len {x : Image} {f : Func} (h : f.params ≤ f.regs) (h0 : 0 ≤ f.params) : (final x f).list.length = f.code.length ∧ (final x f).reached.length = f.code.length := ⟨(it_inv (start_inv h h0) _).ll, (it_inv (start_inv h h0) _).lr⟩
theorem st_no {x : Image} {fn : Int} (h : okFn x fn = false) : stOk x fn = false ∧ stList x fn = [] ∧ stReached x fn = [] := by
  have e : stOk x fn = false := by unfold stOk; rw [h]; rfl
  exact ⟨e, by unfold stList; rw [if_neg (by rw [e]; decide)], by unfold stReached; rw [if_neg (by rw [e]; decide)]⟩
theorem st_bad {x : Image} {fn : Int} (h : (flowOf x fn).bad = true) : stOk x fn = false ∧ stList x fn = [] ∧ stReached x fn = [] := by
  have e : stOk x fn = false := by unfold stOk; rw [h]; simp
  exact ⟨e, by unfold stList; rw [if_neg (by rw [e]; decide)], by unfold stReached; rw [if_neg (by rw [e]; decide)]⟩
theorem st_yes {x : Image} {fn : Int} (h : okFn x fn = true) (hb : (flowOf x fn).bad = false) : stOk x fn = true ∧ stList x fn = (flowOf x fn).list ∧ stReached x fn = (flowOf x fn).reached := by
  have e : stOk x fn = true := by unfold stOk; rw [h, hb]; rfl
  exact ⟨e, by unfold stList; rw [if_pos e], by unfold stReached; rw [if_pos e]⟩
theorem take_el (l : List State) (j : Nat) (h : j < l.length) : l.take (j + 1) = l.take j ++ [el zState l j] := by rw [List.take_add_one, List.getElem?_eq_getElem h, el_lt zState h]; rfl
def imgS.T10 : Bool × List (List Nat × List Nat) := (true, [([], []), ([], []), ([1], [1]), ([2], [2]), ([3], [3]), ([], []), ([4, 5], [4, 5]), ([6], [6]), ([7], [7]), ([], []), ([], []), ([10], [10]), ([11], [11]), ([12], [12]), ([], []), ([13, 14], [13, 14]), ([15], [15]), ([16], [16]), ([9, 17], [9, 17]), ([8, 18], [8, 18]), ([19], [19]), ([0, 20, 18], [0, 20]), ([21, 21, 0, 1, 2, 3, 4, 5, 6, 7, 8, 9, 10, 11, 12, 13, 14, 15, 16, 17, 18, 19, 20, 21], [0, 21])])
def imgS.B10 : List Nat := [0, 0, 2, 6, 14, 0, 62, 126, 254, 0, 0, 1024, 3072, 7168, 0, 31744, 64512, 130048, 261632, 524286, 1048574, 2097151, 4194303]
theorem imgS.tab10 : rtab .any (opsOf Try.f29 10) = imgS.T10 := by kernel_rfl
theorem imgS.bits10 : waitsOk imgS.T10.2 imgS.B10 = true := by kernel_rfl
def imgS.T11 : Bool × List (List Nat × List Nat) := (true, [([], []), ([], []), ([1], [1]), ([2], [2]), ([3], [3]), ([0, 0], [0]), ([4, 5, 0, 1, 2, 3, 4, 5], [4]), ([6, 0, 1, 2, 3, 4, 5, 6], [])])
def imgS.B11 : List Nat := [0, 0, 2, 6, 14, 1, 63, 127]
theorem imgS.tab11 : rtab .any (opsOf Try.f29 11) = imgS.T11 := by kernel_rfl
theorem imgS.bits11 : waitsOk imgS.T11.2 imgS.B11 = true := by kernel_rfl
set_option maxHeartbeats 8000000 in
set_option maxRecDepth 100000 in
theorem cImStates (x : Image) (fn : Int) (A0 : Option Addr) (c0 : Nat) (A1 : Option Addr) (c1 : Nat) (w : World) (l0 : x.funcs.length ≤ c0) (g0 : kFuncI.C w A0 x.funcs.length x.funcs) (l1 : x.consts.length ≤ c1) (g1 : kConst.C w A1 x.consts.length x.consts) (hn : ∀ y ∈ x.consts, 0 ≤ y.num ∧ y.num < 18446744073709551616) :
    Calls Try.prog 30 #[.agg #[.slice A0 x.funcs.length c0, .slice A1 x.consts.length c1], .int .i64 fn] w fun e w' => ∃ v1 v2, e = .returned (.tuple #[v1, v2, .bool (stOk x fn)]) ∧ Kd.S kStateI 31 w' w.heap.size (fun _ => True) v1 (stList x fn) ∧ Kd.bool.R 4 w' w.heap.size (fun _ => True) v2 (stReached x fn) ∧ Below w.heap.size w w' := by
  have hu := Try.underlying37; have hu1 := Try.underlying34; have hu2 := Try.underlying31; have hu3 := Try.underlying48; have hu4 := Try.underlying26; have hu5 := Try.underlying49; have hu6 := Try.underlying89
  have G0 := Aside0.mk g0; have G1 := Aside0.mk g1; have HN := Aside0.mk hn; have L0 := Aside0.mk l0; have L1 := Aside0.mk l1
  have hlen : x.funcs.length ≤ 9223372036854775807 := g0.2.1
  clear g0 g1 hn l0 l1
  have M0 := Aside0.mk ((Mem.start w).allocAt rfl #[.slice A0 x.funcs.length c0, .slice A1 x.consts.length c1] 37)
  have z := M0.out.box (.head _)
  have i4 : IntKind.i64.wrap ((x.funcs.length : Int) - 1) = (x.funcs.length : Int) - 1 := IntWalk.i64_in _ (by omega)
  have i5 : wrap64 ((x.funcs.length : Int) - 1) = (x.funcs.length : Int) - 1 := by unfold wrap64; omega
  go_enter Try.func30, Try.ntmps30
  go_wp2_with fail
  refine (cImageOkI x A0 c0 A1 c1 _ L0.out (Kd.C_below G0.out M0.out.below) L1.out (Kd.C_below G1.out M0.out.below) HN.out).mono ?_
  rintro e w1 ⟨rfl, hb⟩
  have M1 := Aside0.mk (M0.out.step hb); clear hb M0 z
  have z := M1.out.box (.head _)
  rcases Bool.eq_false_or_eq_true (imgB x) with hi | hi
  rotate_left
  · rw [hi]
    have HR := Aside0.mk (st_no (show okFn x fn = false by unfold okFn; rw [hi]; rfl))
    clear hi
    go_wp2
    go_ret3
    exact ⟨.slice none 0 0, .slice none 0 0, by rw [HR.out.1]; rfl, by rw [HR.out.2.1]; exact Kd.S_nil _ _ _ _ _, by rw [HR.out.2.2]; exact Kd.R_nil _ _ _ _ _, M1.out.below⟩
  rw [hi]
  have HI := Aside0.mk hi; clear hi
  go_wp2_with fail
  refine (impl_within.calls _ _ _ _ _ (Img.impl_in fn 0 ((x.funcs.length : Int) - 1))).mono ?_; rintro e w2 ⟨rfl, ⟨⟨n1, rfl⟩⟩⟩
  have M2 := Aside0.mk (M1.out.draw n1); clear M1 z
  have z := M2.out.box (.head _)
  rcases Bool.eq_false_or_eq_true (Img.inB fn 0 ((x.funcs.length : Int) - 1)) with hf | hf
  rotate_left
  · rw [hf]
    have HR := Aside0.mk (st_no (show okFn x fn = false by unfold okFn; rw [hf]; simp))
    clear hf
    go_wp2
    go_ret3
    exact ⟨.slice none 0 0, .slice none 0 0, by rw [HR.out.1]; rfl, by rw [HR.out.2.1]; exact Kd.S_nil _ _ _ _ _, by rw [HR.out.2.2]; exact Kd.R_nil _ _ _ _ _, M2.out.below⟩
  rw [hf]
  have HOK := Aside0.mk (show okFn x fn = true by unfold okFn; rw [HI.out, hf]; rfl)
  have hfr := of_decide_eq_true hf
  obtain ⟨jf, rfl⟩ : ∃ jf : Nat, fn = jf := ⟨fn.toNat, by omega⟩
  have hjf : jf < x.funcs.length := by omega
  clear hf hfr
  obtain ⟨fa, A2, c2, A3, c3, A4, c4, hfa, _⟩ := func_at5 G0.out jf hjf
  subst hfa
  go_wp2_with fail
  refine (cStates x jf (fn_ok HI.out (el_mem zFunc hjf)) hjf w.heap.size fa c0 A1 c1 _ ((M2.out.box (.head _) 0).trans rfl) ((M2.out.box (.head _) 1).trans rfl) (Kd.C_below G0.out M2.out.below)).mono ?_
  rintro e w3 ⟨v1, v2, rfl, hbd, hgd, hb3⟩
  have M3 := Aside0.mk (M2.out.step hb3)
  have hsz := M2.out.below.size
  clear z hb3
  rcases Bool.eq_false_or_eq_true (flowOf x jf).bad with hb | hb
  · have HR := Aside0.mk (st_bad hb)
    obtain ⟨rfl, rfl⟩ := hbd hb
    clear hbd hgd
    rw [show (final x (el zFunc x.funcs jf)).bad = true from hb]
    go_wp2
    go_ret3
    exact ⟨.slice none 0 0, .slice none 0 0, by rw [HR.out.1]; rfl, by rw [HR.out.2.1]; exact Kd.S_nil _ _ _ _ _, by rw [HR.out.2.2]; exact Kd.R_nil _ _ _ _ _, M3.out.below⟩
  · have HR := Aside0.mk (st_yes HOK.out hb)
    have HG := Aside0.mk (hgd hb)
    clear hbd hgd
    rw [show (final x (el zFunc x.funcs jf)).bad = false from hb]
    go_wp2
    go_ret3
    exact ⟨v1, v2, by rw [HR.out.1]; rfl, by rw [HR.out.2.1]; exact Kd.S_lower HG.out.1 hsz, by rw [HR.out.2.2]; exact Kd.R_lower HG.out.2 hsz, M3.out.below⟩
set_option maxHeartbeats 8000000 in
set_option maxRecDepth 100000 in
theorem cSpStates (x : Image) (fn : Int) (A0 : Option Addr) (c0 : Nat) (A1 : Option Addr) (c1 : Nat) (w : World) (l0 : x.funcs.length ≤ c0) (g0 : kFuncI.C w A0 x.funcs.length x.funcs) (l1 : x.consts.length ≤ c1) (g1 : kConst.C w A1 x.consts.length x.consts) (hn : ∀ y ∈ x.consts, 0 ≤ y.num ∧ y.num < 18446744073709551616) :
    Calls Try.prog 29 #[.agg #[.slice A0 x.funcs.length c0, .slice A1 x.consts.length c1], .int .i64 fn] w fun e w' => ∃ v1 v2, e = .returned (.tuple #[v1, v2, .bool (stOk x fn)]) ∧ kStateI.R 31 w' w.heap.size (fun _ => True) v1 (stList x fn) ∧ Kd.bool.R 4 w' w.heap.size (fun _ => True) v2 (stReached x fn) ∧ Below w.heap.size w w' := by
  have hu := Try.underlying37; have hu1 := Try.underlying34; have hu2 := Try.underlying31; have hu3 := Try.underlying48; have hu4 := Try.underlying26; have hu5 := Try.underlying49; have hu6 := Try.underlying89
  have G0 := Aside0.mk g0; have G1 := Aside0.mk g1; have HN := Aside0.mk hn; have L0 := Aside0.mk l0; have L1 := Aside0.mk l1
  have hlen : x.funcs.length ≤ 9223372036854775807 := g0.2.1
  clear g0 g1 hn l0 l1
  have M0 := Aside0.mk ((Mem.start w).allocAt rfl #[.slice A0 x.funcs.length c0, .slice A1 x.consts.length c1] 37)
  have z := M0.out.box (.head _)
  have i4 : IntKind.i64.wrap ((x.funcs.length : Int) - 1) = (x.funcs.length : Int) - 1 := IntWalk.i64_in _ (by omega)
  have i5 : wrap64 ((x.funcs.length : Int) - 1) = (x.funcs.length : Int) - 1 := by unfold wrap64; omega
  go_enter Try.func29, Try.ntmps29
  go_wp2_with fail
  refine (cImageOkS x A0 c0 A1 c1 _ L0.out (Kd.C_below G0.out M0.out.below) L1.out (Kd.C_below G1.out M0.out.below) HN.out).mono ?_
  rintro e w1 ⟨rfl, hb⟩
  have M1 := Aside0.mk (M0.out.step hb); clear hb M0 z
  have z := M1.out.box (.head _)
  rcases Bool.eq_false_or_eq_true (imgB x) with hi | hi
  rotate_left
  · rw [hi]
    have HR := Aside0.mk (st_no (show okFn x fn = false by unfold okFn; rw [hi]; rfl))
    clear hi
    go_wp2_with (first | ((with_reducible refine gate_dst (N := 22) rfl ?_); refine Kd.R_lit kStateI _ 31 ?hg (N := 22) ?hd (xs := ([] : List State)) (inner := []) (ok := fun _ => True) (okp := fun _ => True) ?hr ?hp (fun _ hk => hk) trivial (Below.refl _ _) (Nat.le_refl _) (by simp) ?_; (case hd => rfl); (case hg => rfl); (case hr => first | (go_simp; done) | (go_simp; rfl)); (case hp => exact (Reps.none _ _)); intro v8 wv8 ho hb hg_ hnew_; clear hg_ hnew_; have HOv8 := Aside0.mk ho; have HBv8 := Aside0.mk hb; clear ho hb) | ((with_reducible refine gate_dst (N := 23) rfl ?_); refine Kd.R_lit Kd.bool _ 4 ?hg (N := 23) ?hd (xs := ([] : List Bool)) (inner := []) (ok := fun _ => True) (okp := fun _ => True) ?hr ?hp (fun _ hk => hk) trivial (Below.refl _ _) (Nat.le_refl _) (by simp) ?_; (case hd => rfl); (case hg => rfl); (case hr => first | (go_simp; done) | (go_simp; rfl)); (case hp => exact (Reps.none _ _)); intro v9 wv9 ho hb hg_ hnew_; clear hg_ hnew_; have HOv9 := Aside0.mk ho; have HBv9 := Aside0.mk hb; clear ho hb))
    go_ret3
    have hb8 := below_step M1.out.below HBv8.out
    exact ⟨v8, v9, by rw [HR.out.1]; rfl, by rw [HR.out.2.1]; exact Kd.R_lower (Kd.R_below HOv8.out HBv9.out) M1.out.below.size, by rw [HR.out.2.2]; exact Kd.R_lower HOv9.out hb8.size, below_step hb8 HBv9.out⟩
  rw [hi]
  have HI := Aside0.mk hi; clear hi
  go_wp2_with fail
  refine (spec_l01In.calls _ _ _ _ _ (Img.spec_in fn 0 ((x.funcs.length : Int) - 1))).mono ?_; rintro e w2 ⟨rfl, ⟨⟨n1, rfl⟩⟩⟩
  have M2 := Aside0.mk (M1.out.draw n1); clear M1 z
  have z := M2.out.box (.head _)
  rcases Bool.eq_false_or_eq_true (Img.inB fn 0 ((x.funcs.length : Int) - 1)) with hf | hf
  rotate_left
  · rw [hf]
    have HR := Aside0.mk (st_no (show okFn x fn = false by unfold okFn; rw [hf]; simp))
    clear hf
    go_wp2_with (first | ((with_reducible refine gate_dst (N := 22) rfl ?_); refine Kd.R_lit kStateI _ 31 ?hg (N := 22) ?hd (xs := ([] : List State)) (inner := []) (ok := fun _ => True) (okp := fun _ => True) ?hr ?hp (fun _ hk => hk) trivial (Below.refl _ _) (Nat.le_refl _) (by simp) ?_; (case hd => rfl); (case hg => rfl); (case hr => first | (go_simp; done) | (go_simp; rfl)); (case hp => exact (Reps.none _ _)); intro v8 wv8 ho hb hg_ hnew_; clear hg_ hnew_; have HOv8 := Aside0.mk ho; have HBv8 := Aside0.mk hb; clear ho hb) | ((with_reducible refine gate_dst (N := 23) rfl ?_); refine Kd.R_lit Kd.bool _ 4 ?hg (N := 23) ?hd (xs := ([] : List Bool)) (inner := []) (ok := fun _ => True) (okp := fun _ => True) ?hr ?hp (fun _ hk => hk) trivial (Below.refl _ _) (Nat.le_refl _) (by simp) ?_; (case hd => rfl); (case hg => rfl); (case hr => first | (go_simp; done) | (go_simp; rfl)); (case hp => exact (Reps.none _ _)); intro v9 wv9 ho hb hg_ hnew_; clear hg_ hnew_; have HOv9 := Aside0.mk ho; have HBv9 := Aside0.mk hb; clear ho hb))
    go_ret3
    have hb8 := below_step M2.out.below HBv8.out
    exact ⟨v8, v9, by rw [HR.out.1]; rfl, by rw [HR.out.2.1]; exact Kd.R_lower (Kd.R_below HOv8.out HBv9.out) M2.out.below.size, by rw [HR.out.2.2]; exact Kd.R_lower HOv9.out hb8.size, below_step hb8 HBv9.out⟩
  rw [hf]
  have HOK := Aside0.mk (show okFn x fn = true by unfold okFn; rw [HI.out, hf]; rfl)
  have hfr := of_decide_eq_true hf
  obtain ⟨jf, rfl⟩ : ∃ jf : Nat, fn = jf := ⟨fn.toNat, by omega⟩
  have hjf : jf < x.funcs.length := by omega
  clear hf hfr
  go_wp2_with fail
  refine (cStatesS x jf (fn_ok HI.out (el_mem zFunc hjf)) hjf A0 c0 A1 c1 _ L0.out (Kd.C_below G0.out M2.out.below)).mono ?_
  rintro e w4 ⟨g, lo, vl, vr, vt, r, rfl, hR, hbd, hgd⟩
  have RR := Aside0.mk hR
  have M3 := Aside0.mk (M2.out.step hR.below); have hs2 := M2.out.below.size; clear hR z M2
  have q3 := (blk_cell RR.out.box 3).trans rfl
  rcases Bool.eq_false_or_eq_true r.bad with hb | hb
  · have HR := Aside0.mk (st_bad (show (flowOf x jf).bad = true from hbd ▸ hb))
    rw [hb] at q3
    clear hb hbd hgd
    go_wp2_with (first | ((with_reducible refine gate_dst (N := 31) rfl ?_); refine Kd.R_lit kStateI _ 31 ?hg (N := 31) ?hd (xs := ([] : List State)) (inner := []) (ok := fun _ => True) (okp := fun _ => True) ?hr ?hp (fun _ hk => hk) trivial (Below.refl _ _) (Nat.le_refl _) (by simp) ?_; (case hd => rfl); (case hg => rfl); (case hr => first | (go_simp; done) | (go_simp; rfl)); (case hp => exact (Reps.none _ _)); intro v8 wv8 ho hb hg_ hnew_; clear hg_ hnew_; have HOv8 := Aside0.mk ho; have HBv8 := Aside0.mk hb; clear ho hb) | ((with_reducible refine gate_dst (N := 32) rfl ?_); refine Kd.R_lit Kd.bool _ 4 ?hg (N := 32) ?hd (xs := ([] : List Bool)) (inner := []) (ok := fun _ => True) (okp := fun _ => True) ?hr ?hp (fun _ hk => hk) trivial (Below.refl _ _) (Nat.le_refl _) (by simp) ?_; (case hd => rfl); (case hg => rfl); (case hr => first | (go_simp; done) | (go_simp; rfl)); (case hp => exact (Reps.none _ _)); intro v9 wv9 ho hb hg_ hnew_; clear hg_ hnew_; have HOv9 := Aside0.mk ho; have HBv9 := Aside0.mk hb; clear ho hb))
    go_ret3
    have hb8 := below_step M3.out.below HBv8.out
    exact ⟨v8, v9, by rw [HR.out.1]; rfl, by rw [HR.out.2.1]; exact Kd.R_lower (Kd.R_below HOv8.out HBv9.out) M3.out.below.size, by rw [HR.out.2.2]; exact Kd.R_lower HOv9.out hb8.size, below_step hb8 HBv9.out⟩
  have hre := hgd hb
  have HR := Aside0.mk (st_yes HOK.out (show (flowOf x jf).bad = false from hbd ▸ hb))
  rw [hb] at q3
  have ok := fn_ok HI.out (el_mem zFunc hjf)
  obtain ⟨n, hnl⟩ : ∃ n : Nat, n = r.list.length := ⟨_, rfl⟩
  have hn300 : n ≤ 300 := by rw [hnl, hre, (final_len ok.rg.1 ok.pr.1).1]; exact ok.kl.2
  have HSM := Aside0.mk (show Small 40 r from fun y hy => Nat.le_trans (final_small ok.rg.1 ok.pr.1 y (hre ▸ hy)) (by have := ok.rg; omega))
  have HRE := Aside0.mk (show r = flowOf x jf from hre)
  have hgl : ∃ (AL : Option Addr) (cl : Nat), vl = .slice AL n cl := by obtain ⟨A, c, h⟩ := Kd.R_slice RR.out.L; exact ⟨A, c, by rw [h, hnl]⟩
  obtain ⟨AL, cl, hvl⟩ := hgl
  subst hvl
  have NL := Aside0.mk hnl
  clear hb hbd hgd hre hnl ok HOK
  go_upto_region 6 with fail
  go_wp2_with ((with_reducible refine gate_dst (N := 33) rfl ?_); refine Kd.R_lit kStateI _ 31 ?hg (N := 33) ?hd (xs := ([] : List State)) (inner := []) (ok := fun _ => True) (okp := fun _ => True) ?hr ?hp (fun _ hk => hk) trivial (Below.refl _ _) (Nat.le_refl _) (by simp) ?_; (case hd => rfl); (case hg => rfl); (case hr => first | (go_simp; done) | (go_simp; rfl)); (case hp => exact (Reps.none _ _)); intro v8 wv8 ho hb hg_ hnew_; clear hg_ hnew_; have HOv8 := Aside0.mk ho; have HBv8 := Aside0.mk hb; clear ho hb)
  have hsz := M3.out.below.size
  go_loopw [8, 9] (fun u v wx => ∃ j : Nat, v = .int .i64 j ∧ j ≤ n ∧ Aside0 (kStateI.R 31 wx w4.heap.size (fun _ => True) u (r.list.take j)) ∧ Aside0 (Below w4.heap.size w4 wx)) (fun _ v _ => n - (intOf v).toNat)
  case atStart => exact ⟨0, rfl, by omega, HOv8, HBv8⟩
  case round =>
  clear HOv8 HBv8 q3
  obtain ⟨j, rfl, hj, HO, HB⟩ := hrel
  have q0 := pw_cell_below HB.out ((blk_cell RR.out.box 0).trans rfl)
  by_cases hlt : j < n
  rotate_left
  · have hle : ¬ (j : Int) < (n : Int) := by omega
    have hje : j = n := by omega
    have Q1 := Aside0.mk ((blk_cell RR.out.box 1).trans rfl); have Q0 := Aside0.mk ((blk_cell RR.out.box 0).trans rfl)
    have hlo := RR.out.hlo
    go_upto_region 11 with fail
    clear q0
    refine sz 8 (fun W => W.cell? ⟨g, 1, none⟩ = some vr ∧ W.cell? ⟨g, 0, none⟩ = some (.slice AL n cl)) [] imgS.tab11 imgS.bits11 ⟨pw_cell_below (below_drew1 HB.out) Q1.out, pw_cell_below (below_drew1 HB.out) Q0.out⟩ (fun HT_ HW_ hHeld => ?_)
    have CD := Aside0.mk (below_drew1 HB.out); have OUT := Aside0.mk (Kd.R_drew HO.out)
    generalize wr.drew = wd at CD OUT hHeld ⊢
    refine pz 0 65 ?_; refine pz 1 66 ?_; refine pz 2 67 ?_; refine pz 3 68 ?_; refine pz 5 4 ?_; refine tz 4 69 ?_; refine pz 6 5 ?_; refine pz 7 6 ?_
    refine dz ?_
    have RB := Aside0.mk (Kd.R_below RR.out.B CD.out)
    clear hHeld
    go_wp2
    go_ret3
    refine ⟨_, _, by rw [HR.out.1]; rfl, ?_, ?_, below_step M3.out.below CD.out⟩
    · rw [HR.out.2.1, ← HRE.out]
      have ho := OUT.out
      rw [hje, NL.out, List.take_length] at ho
      exact Kd.R_lower ho hsz
    · rw [HR.out.2.2, ← HRE.out]
      exact Kd.R_mono (Kd.R_lower RB.out (by omega)) (fun _ _ => trivial)
  have hle : (j : Int) < (n : Int) := by omega
  have hj0 : (0 : Int) ≤ (j : Int) := by omega
  obtain ⟨s, hse⟩ : ∃ s, s = el zState r.list j := ⟨_, rfl⟩
  have hls : s.regs.length ≤ 40 := by rw [hse]; exact HSM.out.at j
  obtain ⟨a, AS, yS, hAL, hK, e0, e1⟩ := StateI_at (Kd.R_reads' RR.out.L).2.2 j (by rw [← NL.out]; exact hlt)
  cases hAL
  obtain ⟨_, _, ce, _, hcs⟩ := kStateI_open hK
  injection ce with ce1 ce2; injection ce2 with ce3 _; injection ce3 with ce4 ce5 ce6; subst ce4; subst ce6; clear ce1 ce5 hK
  rw [← hse] at e0 e1 hcs
  have E0 := Aside0.mk e0; have E1 := Aside0.mk e1; have HCS := Aside0.mk hcs; have HSE := Aside0.mk hse; have Q0 := Aside0.mk ((blk_cell RR.out.box 0).trans rfl)
  clear e0 e1 hcs hse
  go_upto_region 10 with fail
  clear q0
  refine sz 23 (fun W => W.cell? ⟨g, 0, none⟩ = some (.slice (some a) n cl) ∧ W.cell? (a.add (j * 2)) = some (.int .i64 s.acc) ∧ W.cell? ⟨(a.add (j * 2)).block, (a.add (j * 2)).off + 1, none⟩ = some (.slice AS s.regs.length yS)) [] imgS.tab10 imgS.bits10 ⟨pw_cell_below (below_drew1 HB.out) Q0.out, pw_cell_below (below_drew1 HB.out) E0.out, pw_cell_below (below_drew1 HB.out) E1.out⟩ (fun HT_ HW_ hHeld => ?_)
  have CD := Aside0.mk (below_drew1 HB.out); have OUT := Aside0.mk (Kd.R_drew HO.out)
  generalize wr.drew = wd at CD OUT hHeld ⊢
  refine pz 0 43 ?_; refine pz 1 44 ?_; refine pz 2 45 ?_; refine pz 3 46 ?_; refine pz 5 48 ?_; refine pz 10 53 ?_; refine pz 11 54 ?_; refine pz 12 55 ?_; refine pz 14 57 ?_; refine tz 4 47 ?_; refine pz 6 49 ?_; refine pz 7 50 ?_; refine tz 8 51 ?_; refine tz 13 56 ?_; refine pz 15 58 ?_; refine pz 16 59 ?_; refine tz 17 60 ?_
  refine ez 9 (some 52) (fun K hK => ?_)
  refine Kd.R_lit_step (Kd.int .i64) (w0 := wd) wd.heap.size 3 ?hg (N := 52) ?hd (xs := ([] : List Int)) (inner := []) (ok := fun _ => True) (okp := fun _ => True) ?hr ?hp (fun _ hk => hk) trivial (Below.refl _ _) (Nat.le_refl _) (by simp) ?_; (case hd => rfl); (case hg => rfl); (case hr => first | (go_simp; done) | (go_simp; rfl)); (case hp => exact (Reps.none _ _))
  intro v5 w5 ho hb hg_ hnew_; clear hg_ hnew_
  have HO5 := Aside0.mk ho; have B5 := Aside0.mk hb; have C5 := Aside0.mk (below_step CD.out hb); clear ho hb
  refine hK.out _ _ ⟨pw_cell_below C5.out Q0.out, pw_cell_below C5.out E0.out, pw_cell_below C5.out E1.out⟩ (fun hHeld => ?_); clear hK K; refine kz (some 52) ?_
  refine ez 18 (some 61) (fun K hK => ?_)
  refine Kd.R_append_rows_step (Kd.int .i64) (w0 := wd) wd.heap.size (by rfl) (.tmp 52) (.tmp 60) 26 3 (.int .i64 0) 8 rfl Try.underlying26 info3 rfl (by decide) (by omega) v5 [] s.regs _ _ _ (fun _ => True) (fun _ => False) rfl rfl ?aO ?aR (fun _ _ h => h) (fun _ h => h.elim) ?aF ?aB ?aS ?aL ?_
  (case aR => exact Kd.C_below HCS.out C5.out)
  (case aO => exact HO5.out)
  (case aF => exact fun _ _ => trivial)
  (case aB => exact B5.out)
  (case aS => exact B5.out.size)
  (case aL => simp; omega)
  intro v6 w6 ho hb hg_ hat_; clear hg_ hat_
  rw [List.nil_append] at ho
  obtain ⟨A6, y6, rfl⟩ := Kd.R_slice ho
  have HO6 := Aside0.mk ho; have C6 := Aside0.mk (below_step CD.out hb); have OUT6 := Aside0.mk (Kd.R_below OUT.out hb); clear ho hb
  refine hK.out _ _ ⟨pw_cell_below C6.out Q0.out, pw_cell_below C6.out E0.out, pw_cell_below C6.out E1.out⟩ (fun hHeld => ?_); clear hK K; refine kz (some 61) ?_
  refine pz 19 62 ?_
  refine ez 20 (some 63) (fun K hK => ?_)
  refine value_ (w1 := ?_) (v := ?_) (by rfl) rfl ?_ ?_
  rotate_left 2
  · go_simp
    constructor
    · rfl
    · rfl
  refine hK.out _ _ ⟨pw_cell_below (below_alloc C6.out _) Q0.out, pw_cell_below (below_alloc C6.out _) E0.out, pw_cell_below (below_alloc C6.out _) E1.out⟩ (fun hHeld => ?_); clear hK K; refine kz (some 63) ?_
  refine ez 21 (some 64) (fun K hK => ?_)
  refine Kd.R_append_step kStateI (w0 := w4) w4.heap.size (by rfl) (.tmp 43) (.tmp 63) 48 31 (.agg #[.int .i64 0, .slice none 0 0]) 32 rfl Try.underlying48 (by kernel_rfl) rfl (by decide) (by omega) _ (r.list.take j) s [.int .i64 s.acc, .slice A6 s.regs.length y6] (fun _ => True) (fun k => wd.heap.size ≤ k) ?aV ?aX ?aP ?aK (fun _ _ => trivial) OUT6.out C6.out C6.out.size ?aL ?_
  (case aV => first | rfl | (go_simp; done) | (go_simp; rfl))
  (case aX => first | rfl | (go_simp; done) | (go_simp; rfl))
  (case aP => exact kStateI_mkM _ _ _ s (Kd.R_lower (Kd.R_mono (Kd.R_bound HO6.out) (fun k hk => hk.2.1)) CD.out.size))
  (case aK => exact fun k hk => ⟨trivial, fun he => by have := Kd.R_lt OUT.out k he.symm; omega⟩)
  (case aL => simp; omega)
  intro v9 w9 ho hb hg_ hat_; clear hg_ hat_
  have HO9 := Aside0.mk ho; have C9 := Aside0.mk hb; clear ho hb
  refine hK.out _ _ ⟨pw_cell_below C9.out Q0.out, pw_cell_below C9.out E0.out, pw_cell_below C9.out E1.out⟩ (fun hHeld => ?_); clear hK K; refine kz (some 64) ?_
  refine pz 22 8 ?_
  refine dz ?_
  clear hHeld
  go_wp2
  go_roundw
  case measure => simp [intOf]; omega
  case rel => exact ⟨j + 1, by go_num, by omega, ⟨by rw [take_el _ _ (by rw [← NL.out]; exact hlt), ← HSE.out]; exact HO9.out⟩, C9⟩
end Go.Proofs.Ytcbaokflimdjnaa.Flow
end
section
namespace Go.Proofs.Ytcbaokflimdjnaa
open Go.RowKit Go.Proofs.YtcbaokflimdjnaaW.PrintWords Go.Proofs.YtcbaokflimdjnaaW.PrintMore Go.Proofs.Ytcbaokflimdjnaa.Law Go.Proofs.Ytcbaokflimdjnaa.Num
set_option linter.unusedVariables false
set_option linter.unusedSimpArgs false
set_option autoImplicit false
theorem el_set_ne {α : Type} {z x : α} {l : List α} {i j : Nat} (h : i ≠ j) : el z (l.set j x) i = el z l i := by simp [el, List.getElem?_set, Ne.symm h]
theorem el_set_eq {α : Type} {z x : α} {l : List α} {j : Nat} (h : j < l.length) : el z (l.set j x) j = x := by simp [el, h]
set_option maxHeartbeats 4000000 in
set_option maxRecDepth 100000 in
theorem toCap (x : Cap) (cs : List Value) (w : World) (hk : kCap.K w x cs) :
    Calls Try.prog 162 #[.agg ⟨cs⟩] w fun e w' => e = .returned (.agg #[.bool x.reg, .int .i64 x.index]) ∧ Below w.heap.size w w' := by
  have e := kCap_open hk; subst e
  have hu := Try.underlying197; have hu2 := Try.underlying105
  have hz : (w.alloc (.cells ⟨[.bool x.reg, .int .i64 x.index]⟩ 197)).heap.size = w.heap.size + 1 := by simp
  go_enter Try.func162, Try.ntmps162
  go_wp2
  refine bodyPost_ret (results_cell_row rfl _ _ (w.heap.size + 1) 105 #[.bool x.reg, .int .i64 x.index] (0, 0) _ rfl (blk_alloc (hz ▸ blk_new _ _) _) hu2 rfl (by kernel_rfl)) rfl ?_
  exact ⟨rfl, below_alloc (below_alloc (below_alloc (Below.refl _ _) _) _) _⟩
set_option maxHeartbeats 4000000 in
set_option maxRecDepth 100000 in
theorem toCapS (A : Option Addr) (c : Nat) (l : List Cap) (w : World) (hr : kCap.C w A l.length l) (hlen : l.length ≤ 1048576) :
    Calls Try.prog 132 #[.slice A l.length c] w fun e w' => ∃ v, e = .returned v ∧ kCap.R 105 w' w.heap.size (fun _ => True) v l ∧ Below w.heap.size w w' := by
  have HR := Aside0.mk hr; clear hr
  have HB := Aside0.mk (Below.refl w.heap.size w)
  have hu := Try.underlying197; have hu2 := Try.underlying105
  go_enter Try.func132, Try.ntmps132
  go_wp2_with (refine Kd.R_make kCap _ 105 rfl (N := _) rfl _ _ _ rfl (l.length : Int) rfl rfl Try.underlying69 (.agg #[.bool false, .int .i64 0]) 16 (by kernel_rfl) rfl (by decide) (by omega) zCap (ok := fun _ => True) (okp := fun _ => True) (kCap_mkM _ _ _ zCap ) (fun _ hk => hk) trivial (by omega) (by omega) (Below.refl _ _) (Nat.le_refl _) ?_; intro v1 w1 ho hb hg_ hnew_; clear hg_ hnew_ HB; have HO := Aside0.mk ho; have HB := Aside0.mk hb; clear ho hb)
  go_loopw [4] (fun v wr => ∃ (j : Nat) (xs : List Cap), v = .int .i64 j ∧ j ≤ l.length ∧ xs.length = l.length ∧ Aside0 (∀ i : Nat, i < j → el zCap xs i = el zCap l i) ∧ Aside0 (kCap.R 105 wr w.heap.size (fun _ => True) v1 xs) ∧ Aside0 (Below w.heap.size w wr)) (fun v _ => l.length - (intOf v).toNat)
  case atStart => exact ⟨0, _, rfl, by omega, by simp, ⟨fun i hi => by omega⟩, HO, HB⟩
  case round =>
    clear HO HB
    obtain ⟨j, xs, rfl, hj, hn, HE, HO, HB⟩ := hrel
    by_cases hlt : j < l.length
    · obtain ⟨a, rfl, hk, x0, x1⟩ := Cap_at HR.out j hlt
      replace x0 := (HB.out.cell (World.block_lt_of_cell? w _ x0)).trans x0
      replace x1 := (HB.out.cell (World.block_lt_of_cell? w _ x1)).trans x1
      have HK := Aside0.mk hk; clear hk
      have hb2 : (j : Int) < (l.length : Int) := by omega
      go_wp2_with fail
      refine (toCap _ _ _ (kCap.K_below HB.out HK.out)).mono ?_
      rintro e w2 ⟨rfl, hb⟩
      have HO2 := Aside0.mk (Kd.R_below HO.out hb); have HB2 := Aside0.mk (below_step HB.out hb)
      obtain ⟨go, co, hv, gb, gl, cl0, HG0⟩ := Kd.R_form HO.out (by omega)
      rw [hn] at hv; subst hv; clear HG0
      obtain ⟨ce, hcl, hM, hcc, hfr⟩ := Kd.R_elem HO2.out zCap (j : Int) (by omega) (by omega)
      have hce := kCap_openM hM; subst hce
      rw [Int.toNat_natCast] at hcc hfr
      have y0 := hcc 0 _ rfl; replace y0 : w2.cell? ⟨go, j * 2, none⟩ = _ := y0; have f0 := hfr 0; replace f0 : w2.frozen? ⟨go, j * 2, none⟩ = false := f0
      have y1 := hcc 1 _ rfl; replace y1 : w2.cell? ⟨go, j * 2 + 1, none⟩ = _ := y1; have f1 := hfr 1; replace f1 : w2.frozen? ⟨go, j * 2 + 1, none⟩ = false := f1
      have HP := Aside0.mk (Kd.R_seg HO2.out (j : Int) (by omega) (by omega) (seg := [.bool (el zCap l j).reg, .int .i64 (el zCap l j).index]) (j := 0) hcl (by rw [Int.toNat_natCast]; exact hcc) (show 2 ≤ 2 from by decide) (x' := el zCap l j) (kCap_mkM _ _ _ _) (fun _ hk => hk)).1
      have GB := Aside0.mk gb
      clear gb gl hcl hcc hfr hM hb HO HB
      go_wp2
      go_roundw
      case measure => simp [intOf]; omega
      case rel => exact ⟨j + 1, _, by go_num, by omega, by simpa using hn, ⟨fun i hi => by rcases Nat.lt_succ_iff_lt_or_eq.1 hi with h | h; (rw [el_set_ne (by omega)]; exact HE.out i h); subst h; exact el_set_eq (by omega)⟩, HP, ⟨below_set (below_set (HB2.out) GB.out) GB.out⟩⟩
    · have hb2 : ¬ (j : Int) < (l.length : Int) := by omega
      have he : xs = l := el_ext zCap hn (fun i hi => HE.out i (by omega))
      subst he
      go_wp2
      go_ret
      exact ⟨_, rfl, HO.out, HB.out⟩
set_option maxHeartbeats 4000000 in
set_option maxRecDepth 100000 in
theorem toIns (x : Ins) (cs : List Value) (w : World) (hk : kIns.K w x cs) :
    Calls Try.prog 163 #[.agg ⟨cs⟩] w fun e w' => e = .returned (.agg #[.int .i64 x.op, .int .i64 x.a, .int .i64 x.b]) ∧ Below w.heap.size w w' := by
  have e := kIns_open hk; subst e
  have hu := Try.underlying199; have hu2 := Try.underlying76
  have hz : (w.alloc (.cells ⟨[.int .i64 x.op, .int .i64 x.a, .int .i64 x.b]⟩ 199)).heap.size = w.heap.size + 1 := by simp
  go_enter Try.func163, Try.ntmps163
  go_wp2
  refine bodyPost_ret (results_cell_row rfl _ _ (w.heap.size + 1) 76 #[.int .i64 x.op, .int .i64 x.a, .int .i64 x.b] (0, 0) _ rfl (blk_alloc (hz ▸ blk_new _ _) _) hu2 rfl (by kernel_rfl)) rfl ?_
  exact ⟨rfl, below_alloc (below_alloc (below_alloc (Below.refl _ _) _) _) _⟩
set_option maxHeartbeats 4000000 in
set_option maxRecDepth 100000 in
theorem toInsS (A : Option Addr) (c : Nat) (l : List Ins) (w : World) (hr : kIns.C w A l.length l) (hlen : l.length ≤ 1048576) :
    Calls Try.prog 133 #[.slice A l.length c] w fun e w' => ∃ v, e = .returned v ∧ kIns.R 76 w' w.heap.size (fun _ => True) v l ∧ Below w.heap.size w w' := by
  have HR := Aside0.mk hr; clear hr
  have HB := Aside0.mk (Below.refl w.heap.size w)
  have hu := Try.underlying199; have hu2 := Try.underlying76
  go_enter Try.func133, Try.ntmps133
  go_wp2_with (refine Kd.R_make kIns _ 76 rfl (N := _) rfl _ _ _ rfl (l.length : Int) rfl rfl Try.underlying70 (.agg #[.int .i64 0, .int .i64 0, .int .i64 0]) 24 (by kernel_rfl) rfl (by decide) (by omega) zIns (ok := fun _ => True) (okp := fun _ => True) (kIns_mkM _ _ _ zIns ) (fun _ hk => hk) trivial (by omega) (by omega) (Below.refl _ _) (Nat.le_refl _) ?_; intro v1 w1 ho hb hg_ hnew_; clear hg_ hnew_ HB; have HO := Aside0.mk ho; have HB := Aside0.mk hb; clear ho hb)
  go_loopw [4] (fun v wr => ∃ (j : Nat) (xs : List Ins), v = .int .i64 j ∧ j ≤ l.length ∧ xs.length = l.length ∧ Aside0 (∀ i : Nat, i < j → el zIns xs i = el zIns l i) ∧ Aside0 (kIns.R 76 wr w.heap.size (fun _ => True) v1 xs) ∧ Aside0 (Below w.heap.size w wr)) (fun v _ => l.length - (intOf v).toNat)
  case atStart => exact ⟨0, _, rfl, by omega, by simp, ⟨fun i hi => by omega⟩, HO, HB⟩
  case round =>
    clear HO HB
    obtain ⟨j, xs, rfl, hj, hn, HE, HO, HB⟩ := hrel
    by_cases hlt : j < l.length
    · obtain ⟨a, rfl, hk, x0, x1, x2⟩ := Ins_at HR.out j hlt
      replace x0 := (HB.out.cell (World.block_lt_of_cell? w _ x0)).trans x0
      replace x1 := (HB.out.cell (World.block_lt_of_cell? w _ x1)).trans x1
      replace x2 := (HB.out.cell (World.block_lt_of_cell? w _ x2)).trans x2
      have HK := Aside0.mk hk; clear hk
      have hb2 : (j : Int) < (l.length : Int) := by omega
      go_wp2_with fail
      refine (toIns _ _ _ (kIns.K_below HB.out HK.out)).mono ?_
      rintro e w2 ⟨rfl, hb⟩
      have HO2 := Aside0.mk (Kd.R_below HO.out hb); have HB2 := Aside0.mk (below_step HB.out hb)
      obtain ⟨go, co, hv, gb, gl, cl0, HG0⟩ := Kd.R_form HO.out (by omega)
      rw [hn] at hv; subst hv; clear HG0
      obtain ⟨ce, hcl, hM, hcc, hfr⟩ := Kd.R_elem HO2.out zIns (j : Int) (by omega) (by omega)
      have hce := kIns_openM hM; subst hce
      rw [Int.toNat_natCast] at hcc hfr
      have y0 := hcc 0 _ rfl; replace y0 : w2.cell? ⟨go, j * 3, none⟩ = _ := y0; have f0 := hfr 0; replace f0 : w2.frozen? ⟨go, j * 3, none⟩ = false := f0
      have y1 := hcc 1 _ rfl; replace y1 : w2.cell? ⟨go, j * 3 + 1, none⟩ = _ := y1; have f1 := hfr 1; replace f1 : w2.frozen? ⟨go, j * 3 + 1, none⟩ = false := f1
      have y2 := hcc 2 _ rfl; replace y2 : w2.cell? ⟨go, j * 3 + 2, none⟩ = _ := y2; have f2 := hfr 2; replace f2 : w2.frozen? ⟨go, j * 3 + 2, none⟩ = false := f2
      have HP := Aside0.mk (Kd.R_seg HO2.out (j : Int) (by omega) (by omega) (seg := [.int .i64 (el zIns l j).op, .int .i64 (el zIns l j).a, .int .i64 (el zIns l j).b]) (j := 0) hcl (by rw [Int.toNat_natCast]; exact hcc) (show 3 ≤ 3 from by decide) (x' := el zIns l j) (kIns_mkM _ _ _ _) (fun _ hk => hk)).1
      have GB := Aside0.mk gb
      clear gb gl hcl hcc hfr hM hb HO HB
      go_wp2
      go_roundw
      case measure => simp [intOf]; omega
      case rel => exact ⟨j + 1, _, by go_num, by omega, by simpa using hn, ⟨fun i hi => by rcases Nat.lt_succ_iff_lt_or_eq.1 hi with h | h; (rw [el_set_ne (by omega)]; exact HE.out i h); subst h; exact el_set_eq (by omega)⟩, HP, ⟨below_set (below_set (below_set (HB2.out) GB.out) GB.out) GB.out⟩⟩
    · have hb2 : ¬ (j : Int) < (l.length : Int) := by omega
      have he : xs = l := el_ext zIns hn (fun i hi => HE.out i (by omega))
      subst he
      go_wp2
      go_ret
      exact ⟨_, rfl, HO.out, HB.out⟩
set_option maxHeartbeats 4000000 in
set_option maxRecDepth 100000 in
theorem toHandler (x : Handler) (cs : List Value) (w : World) (hk : kHandler.K w x cs) :
    Calls Try.prog 164 #[.agg ⟨cs⟩] w fun e w' => e = .returned (.agg #[.int .i64 x.from_, .int .i64 x.to_, .int .i64 x.target]) ∧ Below w.heap.size w w' := by
  have e := kHandler_open hk; subst e
  have hu := Try.underlying201; have hu2 := Try.underlying107
  have hz : (w.alloc (.cells ⟨[.int .i64 x.from_, .int .i64 x.to_, .int .i64 x.target]⟩ 201)).heap.size = w.heap.size + 1 := by simp
  go_enter Try.func164, Try.ntmps164
  go_wp2
  refine bodyPost_ret (results_cell_row rfl _ _ (w.heap.size + 1) 107 #[.int .i64 x.from_, .int .i64 x.to_, .int .i64 x.target] (0, 0) _ rfl (blk_alloc (hz ▸ blk_new _ _) _) hu2 rfl (by kernel_rfl)) rfl ?_
  exact ⟨rfl, below_alloc (below_alloc (below_alloc (Below.refl _ _) _) _) _⟩
set_option maxHeartbeats 4000000 in
set_option maxRecDepth 100000 in
theorem toHandlerS (A : Option Addr) (c : Nat) (l : List Handler) (w : World) (hr : kHandler.C w A l.length l) (hlen : l.length ≤ 1048576) :
    Calls Try.prog 134 #[.slice A l.length c] w fun e w' => ∃ v, e = .returned v ∧ kHandler.R 107 w' w.heap.size (fun _ => True) v l ∧ Below w.heap.size w w' := by
  have HR := Aside0.mk hr; clear hr
  have HB := Aside0.mk (Below.refl w.heap.size w)
  have hu := Try.underlying201; have hu2 := Try.underlying107
  go_enter Try.func134, Try.ntmps134
  go_wp2_with (refine Kd.R_make kHandler _ 107 rfl (N := _) rfl _ _ _ rfl (l.length : Int) rfl rfl Try.underlying71 (.agg #[.int .i64 0, .int .i64 0, .int .i64 0]) 24 (by kernel_rfl) rfl (by decide) (by omega) zHandler (ok := fun _ => True) (okp := fun _ => True) (kHandler_mkM _ _ _ zHandler ) (fun _ hk => hk) trivial (by omega) (by omega) (Below.refl _ _) (Nat.le_refl _) ?_; intro v1 w1 ho hb hg_ hnew_; clear hg_ hnew_ HB; have HO := Aside0.mk ho; have HB := Aside0.mk hb; clear ho hb)
  go_loopw [4] (fun v wr => ∃ (j : Nat) (xs : List Handler), v = .int .i64 j ∧ j ≤ l.length ∧ xs.length = l.length ∧ Aside0 (∀ i : Nat, i < j → el zHandler xs i = el zHandler l i) ∧ Aside0 (kHandler.R 107 wr w.heap.size (fun _ => True) v1 xs) ∧ Aside0 (Below w.heap.size w wr)) (fun v _ => l.length - (intOf v).toNat)
  case atStart => exact ⟨0, _, rfl, by omega, by simp, ⟨fun i hi => by omega⟩, HO, HB⟩
  case round =>
    clear HO HB
    obtain ⟨j, xs, rfl, hj, hn, HE, HO, HB⟩ := hrel
    by_cases hlt : j < l.length
    · obtain ⟨a, rfl, hk, x0, x1, x2⟩ := Handler_at HR.out j hlt
      replace x0 := (HB.out.cell (World.block_lt_of_cell? w _ x0)).trans x0
      replace x1 := (HB.out.cell (World.block_lt_of_cell? w _ x1)).trans x1
      replace x2 := (HB.out.cell (World.block_lt_of_cell? w _ x2)).trans x2
      have HK := Aside0.mk hk; clear hk
      have hb2 : (j : Int) < (l.length : Int) := by omega
      go_wp2_with fail
      refine (toHandler _ _ _ (kHandler.K_below HB.out HK.out)).mono ?_
      rintro e w2 ⟨rfl, hb⟩
      have HO2 := Aside0.mk (Kd.R_below HO.out hb); have HB2 := Aside0.mk (below_step HB.out hb)
      obtain ⟨go, co, hv, gb, gl, cl0, HG0⟩ := Kd.R_form HO.out (by omega)
      rw [hn] at hv; subst hv; clear HG0
      obtain ⟨ce, hcl, hM, hcc, hfr⟩ := Kd.R_elem HO2.out zHandler (j : Int) (by omega) (by omega)
      have hce := kHandler_openM hM; subst hce
      rw [Int.toNat_natCast] at hcc hfr
      have y0 := hcc 0 _ rfl; replace y0 : w2.cell? ⟨go, j * 3, none⟩ = _ := y0; have f0 := hfr 0; replace f0 : w2.frozen? ⟨go, j * 3, none⟩ = false := f0
      have y1 := hcc 1 _ rfl; replace y1 : w2.cell? ⟨go, j * 3 + 1, none⟩ = _ := y1; have f1 := hfr 1; replace f1 : w2.frozen? ⟨go, j * 3 + 1, none⟩ = false := f1
      have y2 := hcc 2 _ rfl; replace y2 : w2.cell? ⟨go, j * 3 + 2, none⟩ = _ := y2; have f2 := hfr 2; replace f2 : w2.frozen? ⟨go, j * 3 + 2, none⟩ = false := f2
      have HP := Aside0.mk (Kd.R_seg HO2.out (j : Int) (by omega) (by omega) (seg := [.int .i64 (el zHandler l j).from_, .int .i64 (el zHandler l j).to_, .int .i64 (el zHandler l j).target]) (j := 0) hcl (by rw [Int.toNat_natCast]; exact hcc) (show 3 ≤ 3 from by decide) (x' := el zHandler l j) (kHandler_mkM _ _ _ _) (fun _ hk => hk)).1
      have GB := Aside0.mk gb
      clear gb gl hcl hcc hfr hM hb HO HB
      go_wp2
      go_roundw
      case measure => simp [intOf]; omega
      case rel => exact ⟨j + 1, _, by go_num, by omega, by simpa using hn, ⟨fun i hi => by rcases Nat.lt_succ_iff_lt_or_eq.1 hi with h | h; (rw [el_set_ne (by omega)]; exact HE.out i h); subst h; exact el_set_eq (by omega)⟩, HP, ⟨below_set (below_set (below_set (HB2.out) GB.out) GB.out) GB.out⟩⟩
    · have hb2 : ¬ (j : Int) < (l.length : Int) := by omega
      have he : xs = l := el_ext zHandler hn (fun i hi => HE.out i (by omega))
      subst he
      go_wp2
      go_ret
      exact ⟨_, rfl, HO.out, HB.out⟩
set_option maxHeartbeats 4000000 in
set_option maxRecDepth 100000 in
theorem toConst (x : Const) (cs : List Value) (w : World) (hk : kConst.K w x cs) :
    Calls Try.prog 98 #[.agg ⟨cs⟩] w fun e w' => e = .returned (.agg #[.int .i64 x.kind, .int .u64 x.num, .string x.text]) ∧ Below w.heap.size w w' := by
  have e := kConst_open hk; subst e
  have hu := Try.underlying131; have hu2 := Try.underlying100
  have hz : (w.alloc (.cells ⟨[.int .i64 x.kind, .int .u64 x.num, .string x.text]⟩ 131)).heap.size = w.heap.size + 1 := by simp
  go_enter Try.func98, Try.ntmps98
  go_wp2
  refine bodyPost_ret (results_cell_row rfl _ _ (w.heap.size + 1) 100 #[.int .i64 x.kind, .int .u64 x.num, .string x.text] (0, 0) _ rfl (blk_alloc (hz ▸ blk_new _ _) _) hu2 rfl (by kernel_rfl)) rfl ?_
  exact ⟨rfl, below_alloc (below_alloc (below_alloc (Below.refl _ _) _) _) _⟩
set_option maxHeartbeats 4000000 in
set_option maxRecDepth 100000 in
theorem toConstS (A : Option Addr) (c : Nat) (l : List Const) (w : World) (hr : kConst.C w A l.length l) (hlen : l.length ≤ 1048576) :
    Calls Try.prog 57 #[.slice A l.length c] w fun e w' => ∃ v, e = .returned v ∧ kConst.R 100 w' w.heap.size (fun _ => True) v l ∧ Below w.heap.size w w' := by
  have HR := Aside0.mk hr; clear hr
  have HB := Aside0.mk (Below.refl w.heap.size w)
  have hu := Try.underlying131; have hu2 := Try.underlying100
  go_enter Try.func57, Try.ntmps57
  go_wp2_with (refine Kd.R_make kConst _ 100 rfl (N := _) rfl _ _ _ rfl (l.length : Int) rfl rfl Try.underlying35 (.agg #[.int .i64 0, .int .u64 0, .string (⟨#[]⟩ : ByteArray)]) 32 (by kernel_rfl) rfl (by decide) (by omega) zConst (ok := fun _ => True) (okp := fun _ => True) (kConst_mkM _ _ _ zConst ) (fun _ hk => hk) trivial (by omega) (by omega) (Below.refl _ _) (Nat.le_refl _) ?_; intro v1 w1 ho hb hg_ hnew_; clear hg_ hnew_ HB; have HO := Aside0.mk ho; have HB := Aside0.mk hb; clear ho hb)
  go_loopw [4] (fun v wr => ∃ (j : Nat) (xs : List Const), v = .int .i64 j ∧ j ≤ l.length ∧ xs.length = l.length ∧ Aside0 (∀ i : Nat, i < j → el zConst xs i = el zConst l i) ∧ Aside0 (kConst.R 100 wr w.heap.size (fun _ => True) v1 xs) ∧ Aside0 (Below w.heap.size w wr)) (fun v _ => l.length - (intOf v).toNat)
  case atStart => exact ⟨0, _, rfl, by omega, by simp, ⟨fun i hi => by omega⟩, HO, HB⟩
  case round =>
    clear HO HB
    obtain ⟨j, xs, rfl, hj, hn, HE, HO, HB⟩ := hrel
    by_cases hlt : j < l.length
    · obtain ⟨a, rfl, hk, x0, x1, x2⟩ := Const_at HR.out j hlt
      replace x0 := (HB.out.cell (World.block_lt_of_cell? w _ x0)).trans x0
      replace x1 := (HB.out.cell (World.block_lt_of_cell? w _ x1)).trans x1
      replace x2 := (HB.out.cell (World.block_lt_of_cell? w _ x2)).trans x2
      have HK := Aside0.mk hk; clear hk
      have hb2 : (j : Int) < (l.length : Int) := by omega
      go_wp2_with fail
      refine (toConst _ _ _ (kConst.K_below HB.out HK.out)).mono ?_
      rintro e w2 ⟨rfl, hb⟩
      have HO2 := Aside0.mk (Kd.R_below HO.out hb); have HB2 := Aside0.mk (below_step HB.out hb)
      obtain ⟨go, co, hv, gb, gl, cl0, HG0⟩ := Kd.R_form HO.out (by omega)
      rw [hn] at hv; subst hv; clear HG0
      obtain ⟨ce, hcl, hM, hcc, hfr⟩ := Kd.R_elem HO2.out zConst (j : Int) (by omega) (by omega)
      have hce := kConst_openM hM; subst hce
      rw [Int.toNat_natCast] at hcc hfr
      have y0 := hcc 0 _ rfl; replace y0 : w2.cell? ⟨go, j * 3, none⟩ = _ := y0; have f0 := hfr 0; replace f0 : w2.frozen? ⟨go, j * 3, none⟩ = false := f0
      have y1 := hcc 1 _ rfl; replace y1 : w2.cell? ⟨go, j * 3 + 1, none⟩ = _ := y1; have f1 := hfr 1; replace f1 : w2.frozen? ⟨go, j * 3 + 1, none⟩ = false := f1
      have y2 := hcc 2 _ rfl; replace y2 : w2.cell? ⟨go, j * 3 + 2, none⟩ = _ := y2; have f2 := hfr 2; replace f2 : w2.frozen? ⟨go, j * 3 + 2, none⟩ = false := f2
      have HP := Aside0.mk (Kd.R_seg HO2.out (j : Int) (by omega) (by omega) (seg := [.int .i64 (el zConst l j).kind, .int .u64 (el zConst l j).num, .string (el zConst l j).text]) (j := 0) hcl (by rw [Int.toNat_natCast]; exact hcc) (show 3 ≤ 3 from by decide) (x' := el zConst l j) (kConst_mkM _ _ _ _) (fun _ hk => hk)).1
      have GB := Aside0.mk gb
      clear gb gl hcl hcc hfr hM hb HO HB
      go_wp2
      go_roundw
      case measure => simp [intOf]; omega
      case rel => exact ⟨j + 1, _, by go_num, by omega, by simpa using hn, ⟨fun i hi => by rcases Nat.lt_succ_iff_lt_or_eq.1 hi with h | h; (rw [el_set_ne (by omega)]; exact HE.out i h); subst h; exact el_set_eq (by omega)⟩, HP, ⟨below_set (below_set (below_set (HB2.out) GB.out) GB.out) GB.out⟩⟩
    · have hb2 : ¬ (j : Int) < (l.length : Int) := by omega
      have he : xs = l := el_ext zConst hn (fun i hi => HE.out i (by omega))
      subst he
      go_wp2
      go_ret
      exact ⟨_, rfl, HO.out, HB.out⟩
def LenFunc (x : Func) : Prop := x.caps.length ≤ 1048576 ∧ x.code.length ≤ 1048576 ∧ x.handlers.length ≤ 1048576
set_option maxHeartbeats 4000000 in
set_option maxRecDepth 100000 in
theorem toFunc (x : Func) (cs : List Value) (w : World) (hk : kFuncL.K w x cs) (hl : LenFunc x) :
    Calls Try.prog 97 #[.agg ⟨cs⟩] w fun e w' => ∃ ds, e = .returned (.agg ⟨ds⟩) ∧ kFuncI.M w' w.heap.size (fun _ => True) x ds ∧ Below w.heap.size w w' := by
  obtain ⟨pA2, pc2, pA3, pc3, pA4, pc4, rfl, pl2, pg2, pl3, pg3, pl4, pg4⟩ := kFuncL_open hk
  have pG2 := Aside0.mk pg2; clear pg2 pl2
  have pG3 := Aside0.mk pg3; clear pg3 pl3
  have pG4 := Aside0.mk pg4; clear pg4 pl4
  clear hk; unfold LenFunc at hl
  have HL := Aside0.mk hl; clear hl
  have hu := Try.underlying129; have hu2 := Try.underlying73
  have M0 := Aside0.mk ((((Mem.start w).allocAt rfl #[.int .i64 x.params, .int .i64 x.regs, .slice pA2 x.caps.length pc2, .slice pA3 x.code.length pc3, .slice pA4 x.handlers.length pc4] 129).allocAt (g := (w.heap.size + 1)) (by simp) #[.int .i64 0, .int .i64 0, .slice none 0 0, .slice none 0 0, .slice none 0 0] 73).allocAt (g := (w.heap.size + 1 + 1)) (by simp) #[.int .i64 x.params, .int .i64 x.regs, .slice none 0 0, .slice none 0 0, .slice none 0 0] 73)
  go_enter Try.func97, Try.ntmps97
  go_wp2_with fail
  refine (toCapS _ _ x.caps _ (Kd.C_below pG2.out M0.out.below) HL.out.1).mono ?_
  rintro e w2 ⟨v, rfl, ho, hb⟩; obtain ⟨vA2, vc2, rfl⟩ := Kd.R_slice ho
  have N2 := Aside0.mk (M0.out.pushR hb ho); clear ho hb M0
  have M3 := Aside0.mk (Mem.set (A := [_]) N2.out 2 (.slice vA2 x.caps.length vc2) (cs' := #[.int .i64 x.params, .int .i64 x.regs, .slice vA2 x.caps.length vc2, .slice none 0 0, .slice none 0 0]) rfl)
  have za := N2.out.box (.tail _ (.tail _ (.tail _ (.head _)))); have zo := N2.out.box (.tail _ (.head _)); have fo := N2.out.free (.tail _ (.head _)); have zr := N2.out.box (.tail _ (.tail _ (.head _))); have fr := N2.out.free (.tail _ (.tail _ (.head _)))
  go_wp2_with fail
  clear za zo fo zr fr N2
  refine (toInsS _ _ x.code _ (Kd.C_below pG3.out M3.out.below) HL.out.2.1).mono ?_
  rintro e w3 ⟨v, rfl, ho, hb⟩; obtain ⟨vA3, vc3, rfl⟩ := Kd.R_slice ho
  have N3 := Aside0.mk (M3.out.pushR hb ho); clear ho hb M3
  have M4 := Aside0.mk (Mem.set (A := [_, _]) N3.out 3 (.slice vA3 x.code.length vc3) (cs' := #[.int .i64 x.params, .int .i64 x.regs, .slice vA2 x.caps.length vc2, .slice vA3 x.code.length vc3, .slice none 0 0]) rfl)
  have za := N3.out.box (.tail _ (.tail _ (.tail _ (.tail _ (.head _))))); have zo := N3.out.box (.tail _ (.tail _ (.head _))); have fo := N3.out.free (.tail _ (.tail _ (.head _))); have zr := N3.out.box (.tail _ (.tail _ (.tail _ (.head _)))); have fr := N3.out.free (.tail _ (.tail _ (.tail _ (.head _))))
  go_wp2_with fail
  clear za zo fo zr fr N3
  refine (toHandlerS _ _ x.handlers _ (Kd.C_below pG4.out M4.out.below) HL.out.2.2).mono ?_
  rintro e w4 ⟨v, rfl, ho, hb⟩; obtain ⟨vA4, vc4, rfl⟩ := Kd.R_slice ho
  have N4 := Aside0.mk (M4.out.pushR hb ho); clear ho hb M4
  have M5 := Aside0.mk (Mem.set (A := [_, _, _]) N4.out 4 (.slice vA4 x.handlers.length vc4) (cs' := #[.int .i64 x.params, .int .i64 x.regs, .slice vA2 x.caps.length vc2, .slice vA3 x.code.length vc3, .slice vA4 x.handlers.length vc4]) rfl)
  have za := N4.out.box (.tail _ (.tail _ (.tail _ (.tail _ (.tail _ (.head _)))))); have zo := N4.out.box (.tail _ (.tail _ (.tail _ (.head _)))); have fo := N4.out.free (.tail _ (.tail _ (.tail _ (.head _)))); have zr := N4.out.box (.tail _ (.tail _ (.tail _ (.tail _ (.head _))))); have fr := N4.out.free (.tail _ (.tail _ (.tail _ (.tail _ (.head _)))))
  go_wp2
  have Z0 := Aside0.mk (Mem.set (A := [_, _, _, _]) M5.out 0 (.int .i64 x.params) (cs' := #[.int .i64 x.params, .int .i64 0, .slice none 0 0, .slice none 0 0, .slice none 0 0]) rfl); clear M5
  have Z1 := Aside0.mk (Mem.set (A := [_, _, _, _]) Z0.out 1 (.int .i64 x.regs) (cs' := #[.int .i64 x.params, .int .i64 x.regs, .slice none 0 0, .slice none 0 0, .slice none 0 0]) rfl); clear Z0
  have Z2 := Aside0.mk (Mem.set (A := [_, _, _, _]) Z1.out 2 (.slice vA2 x.caps.length vc2) (cs' := #[.int .i64 x.params, .int .i64 x.regs, .slice vA2 x.caps.length vc2, .slice none 0 0, .slice none 0 0]) rfl); clear Z1
  have Z3 := Aside0.mk (Mem.set (A := [_, _, _, _]) Z2.out 3 (.slice vA3 x.code.length vc3) (cs' := #[.int .i64 x.params, .int .i64 x.regs, .slice vA2 x.caps.length vc2, .slice vA3 x.code.length vc3, .slice none 0 0]) rfl); clear Z2
  have Z4 := Aside0.mk (Mem.set (A := [_, _, _, _]) Z3.out 4 (.slice vA4 x.handlers.length vc4) (cs' := #[.int .i64 x.params, .int .i64 x.regs, .slice vA2 x.caps.length vc2, .slice vA3 x.code.length vc3, .slice vA4 x.handlers.length vc4]) rfl); clear Z3
  refine bodyPost_ret (results_cell_row rfl _ _ (w.heap.size + 1) 73 #[.int .i64 x.params, .int .i64 x.regs, .slice vA2 x.caps.length vc2, .slice vA3 x.code.length vc3, .slice vA4 x.handlers.length vc4] (0, 0) _ rfl (Z4.out.blk (.tail _ (.tail _ (.tail _ (.tail _ (.head _)))))) hu2 rfl (by kernel_rfl)) rfl ?_
  exact ⟨_, rfl, kFuncI_mkM _ _ _ x (Z4.out.rowT (.tail _ (.tail _ (.head _)))) (Z4.out.rowT (.tail _ (.head _))) (Z4.out.rowT (.head _)), Z4.out.below⟩
def LenImage (x : Image) : Prop := x.funcs.length ≤ 1048576 ∧ (∀ y ∈ x.funcs, LenFunc y) ∧ x.consts.length ≤ 1048576
end Go.Proofs.Ytcbaokflimdjnaa
end
section
namespace Go.Proofs.Ytcbaokflimdjnaa
open Go.RowKit Go.Proofs.YtcbaokflimdjnaaW.PrintWords Go.Proofs.YtcbaokflimdjnaaW.PrintMore Go.Proofs.Ytcbaokflimdjnaa.Law Go.Proofs.Ytcbaokflimdjnaa.Num
set_option linter.unusedVariables false
set_option linter.unusedSimpArgs false
/-- What is left of a purse: -1 where it does not do. -/
def sub (left : Int) (n : Nat) : Int := if left < n then -1 else left - n
def sizeCapS (l : List Cap) : Nat := l.length
theorem szCapS (A : Option Addr) (c : Nat) (l : List Cap) (left : Int) (w : World) (hr : kCap.C w A l.length l) (h0 : 0 ≤ left) (h1 : left ≤ 1048576) :
    Calls Try.prog 128 #[.slice A l.length c, .int .i64 left] w fun e w' => e = .returned (.int .i64 (sub left (sizeCapS l))) ∧ Drawn0 w w' := by
  have hL : l.length ≤ 9223372036854775807 := hr.2.1
  unfold sizeCapS sub
  clear hr
  by_cases h : left < (l.length : Int)
  · rw [if_pos h]
    have d1 : decide (left - (l.length : Int) < 0) = true := by simp; omega
    have d2 : decide (left < (l.length : Int)) = true := by simp; omega
    go_enter Try.func128, Try.ntmps128
    go_wp2
    go_ret
    exact ⟨rfl, Drawn0.refl _⟩
  · rw [if_neg h]
    have d1 : decide (left - (l.length : Int) < 0) = false := by simp; omega
    have d2 : decide (left < (l.length : Int)) = false := by simp; omega
    go_enter Try.func128, Try.ntmps128
    go_wp2
    go_ret
    exact ⟨rfl, Drawn0.refl _⟩
def sizeInsS (l : List Ins) : Nat := l.length
theorem szInsS (A : Option Addr) (c : Nat) (l : List Ins) (left : Int) (w : World) (hr : kIns.C w A l.length l) (h0 : 0 ≤ left) (h1 : left ≤ 1048576) :
    Calls Try.prog 129 #[.slice A l.length c, .int .i64 left] w fun e w' => e = .returned (.int .i64 (sub left (sizeInsS l))) ∧ Drawn0 w w' := by
  have hL : l.length ≤ 9223372036854775807 := hr.2.1
  unfold sizeInsS sub
  clear hr
  by_cases h : left < (l.length : Int)
  · rw [if_pos h]
    have d1 : decide (left - (l.length : Int) < 0) = true := by simp; omega
    have d2 : decide (left < (l.length : Int)) = true := by simp; omega
    go_enter Try.func129, Try.ntmps129
    go_wp2
    go_ret
    exact ⟨rfl, Drawn0.refl _⟩
  · rw [if_neg h]
    have d1 : decide (left - (l.length : Int) < 0) = false := by simp; omega
    have d2 : decide (left < (l.length : Int)) = false := by simp; omega
    go_enter Try.func129, Try.ntmps129
    go_wp2
    go_ret
    exact ⟨rfl, Drawn0.refl _⟩
def sizeHandlerS (l : List Handler) : Nat := l.length
theorem szHandlerS (A : Option Addr) (c : Nat) (l : List Handler) (left : Int) (w : World) (hr : kHandler.C w A l.length l) (h0 : 0 ≤ left) (h1 : left ≤ 1048576) :
    Calls Try.prog 130 #[.slice A l.length c, .int .i64 left] w fun e w' => e = .returned (.int .i64 (sub left (sizeHandlerS l))) ∧ Drawn0 w w' := by
  have hL : l.length ≤ 9223372036854775807 := hr.2.1
  unfold sizeHandlerS sub
  clear hr
  by_cases h : left < (l.length : Int)
  · rw [if_pos h]
    have d1 : decide (left - (l.length : Int) < 0) = true := by simp; omega
    have d2 : decide (left < (l.length : Int)) = true := by simp; omega
    go_enter Try.func130, Try.ntmps130
    go_wp2
    go_ret
    exact ⟨rfl, Drawn0.refl _⟩
  · rw [if_neg h]
    have d1 : decide (left - (l.length : Int) < 0) = false := by simp; omega
    have d2 : decide (left < (l.length : Int)) = false := by simp; omega
    go_enter Try.func130, Try.ntmps130
    go_wp2
    go_ret
    exact ⟨rfl, Drawn0.refl _⟩
def sizeConst (x : Const) : Nat := x.text.size
def GoodConst (x : Const) : Prop := x.text.size ≤ maxLen
set_option maxHeartbeats 4000000 in
set_option maxRecDepth 100000 in
theorem szConst (x : Const) (cs : List Value) (left : Int) (w : World) (hk : kConst.K w x cs) (hgood : GoodConst x) (h0 : 0 ≤ left) (h1 : left ≤ 1048576) :
    Calls Try.prog 92 #[.agg ⟨cs⟩, .int .i64 left] w fun e w' => e = .returned (.int .i64 (sub left (sizeConst x))) ∧ Below w.heap.size w w' := by
  have ecs := kConst_open hk; subst ecs
  clear hk
  have hu := Try.underlying131
  unfold GoodConst at hgood
  have HG := Aside0.mk hgood
  have A0 := Aside0.mk ((At.start w).alloc #[.int .i64 x.kind, .int .u64 x.num, .string x.text] 131)
  obtain ⟨n0, hn0⟩ : ∃ q, q = x.text.size := ⟨_, rfl⟩
  have HN := Aside0.mk hn0
  have hb0 : n0 ≤ 9223372036854775807 := by have := HG.out; unfold maxLen at this; omega
  clear hn0
  clear hgood
  have hsize : sizeConst x = n0 := by unfold sizeConst; have h := HN.out; omega
  rw [hsize]; have HSZ := Aside0.mk hsize; clear hsize
  by_cases c0 : left < (n0 : Int)
  · skip
    have hfin : sub left (n0) = -1 := by unfold sub; rw [if_pos (by omega)]
    rw [hfin]; clear hfin
    have s0 : sub (left) n0 = -1 := by unfold sub; rw [if_pos (by omega)]
    have d0 : decide (left - (n0 : Int) < 0) = true := by simp; omega
    have d0b : decide (left < (n0 : Int)) = true := by simp; omega
    have S0 := Aside0.mk s0; clear s0
    have e0 : (x.text.size : Int) = (n0 : Int) := by have := HN.out; omega
    go_enter Try.func92, Try.ntmps92
    go_wp2
    go_ret
    exact ⟨rfl, A0.out.below⟩
  · skip
    have hfin : sub left (n0) = left - n0 := by unfold sub; rw [if_neg (by omega)] <;> omega
    rw [hfin]; clear hfin
    have s0 : sub (left) n0 = left - (n0 : Int) := by unfold sub; rw [if_neg (by omega)]
    have d0 : decide (left - (n0 : Int) < 0) = false := by simp; omega
    have g0 : 0 ≤ left - (n0 : Int) := by omega
    have d0b : decide (left < (n0 : Int)) = false := by simp; omega
    have S0 := Aside0.mk s0; clear s0
    have e0 : (x.text.size : Int) = (n0 : Int) := by have := HN.out; omega
    go_enter Try.func92, Try.ntmps92
    go_wp2
    go_ret
    exact ⟨rfl, A0.out.below⟩
def sizeFunc (x : Func) : Nat := sizeCapS x.caps + sizeInsS x.code + sizeHandlerS x.handlers
def GoodFunc (x : Func) : Prop := True
set_option maxHeartbeats 4000000 in
set_option maxRecDepth 100000 in
theorem szFunc (x : Func) (cs : List Value) (left : Int) (w : World) (hk : kFuncL.K w x cs) (hgood : GoodFunc x) (h0 : 0 ≤ left) (h1 : left ≤ 1048576) :
    Calls Try.prog 91 #[.agg ⟨cs⟩, .int .i64 left] w fun e w' => e = .returned (.int .i64 (sub left (sizeFunc x))) ∧ Below w.heap.size w w' := by
  obtain ⟨pA2, pc2, pA3, pc3, pA4, pc4, rfl, pl2, pg2, pl3, pg3, pl4, pg4⟩ := kFuncL_open hk
  have pG2 := Aside0.mk pg2; clear pg2 pl2
  have pG3 := Aside0.mk pg3; clear pg3 pl3
  have pG4 := Aside0.mk pg4; clear pg4 pl4
  clear hk
  have hu := Try.underlying129
  unfold GoodFunc at hgood
  have HG := Aside0.mk hgood
  have A0 := Aside0.mk ((At.start w).alloc #[.int .i64 x.params, .int .i64 x.regs, .slice pA2 x.caps.length pc2, .slice pA3 x.code.length pc3, .slice pA4 x.handlers.length pc4] 129)
  obtain ⟨n0, hn0⟩ : ∃ q, q = sizeCapS x.caps := ⟨_, rfl⟩
  obtain ⟨n1, hn1⟩ : ∃ q, q = sizeInsS x.code := ⟨_, rfl⟩
  obtain ⟨n2, hn2⟩ : ∃ q, q = sizeHandlerS x.handlers := ⟨_, rfl⟩
  have HN := Aside0.mk (show n0 = sizeCapS x.caps ∧ n1 = sizeInsS x.code ∧ n2 = sizeHandlerS x.handlers from ⟨hn0, hn1, hn2⟩)
  clear hn0
  clear hn1
  clear hn2
  clear hgood
  have hsize : sizeFunc x = n0 + n1 + n2 := by unfold sizeFunc; have h := HN.out; omega
  rw [hsize]; have HSZ := Aside0.mk hsize; clear hsize
  by_cases c0 : left < (n0 : Int)
  · skip
    have hfin : sub left (n0 + n1 + n2) = -1 := by unfold sub; rw [if_pos (by omega)]
    rw [hfin]; clear hfin
    have s0 : sub (left) n0 = -1 := by unfold sub; rw [if_pos (by omega)]
    have S0 := Aside0.mk s0; clear s0
    go_enter Try.func91, Try.ntmps91
    go_wp2_with fail
    refine (szCapS _ _ _ (left) _ (A0.out.reads pG2.out) (by omega) (by omega)).mono ?_
    rintro e w1 ⟨rfl, hb0⟩
    rw [show sizeCapS x.caps = n0 from (by have := HN.out; omega), S0.out]
    have A1 := Aside0.mk (A0.out.step (hb0.below)); clear A0 hb0; have z0 := A1.out.cell0
    go_wp2
    go_ret
    exact ⟨rfl, A1.out.below⟩
  · skip
    by_cases c1 : left - (n0 : Int) < (n1 : Int)
    · skip
      have hfin : sub left (n0 + n1 + n2) = -1 := by unfold sub; rw [if_pos (by omega)]
      rw [hfin]; clear hfin
      have s0 : sub (left) n0 = left - (n0 : Int) := by unfold sub; rw [if_neg (by omega)]
      have d0 : decide (left - (n0 : Int) < 0) = false := by simp; omega
      have g0 : 0 ≤ left - (n0 : Int) := by omega
      have S0 := Aside0.mk s0; clear s0
      have s1 : sub (left - (n0 : Int)) n1 = -1 := by unfold sub; rw [if_pos (by omega)]
      have S1 := Aside0.mk s1; clear s1
      go_enter Try.func91, Try.ntmps91
      go_wp2_with fail
      refine (szCapS _ _ _ (left) _ (A0.out.reads pG2.out) (by omega) (by omega)).mono ?_
      rintro e w1 ⟨rfl, hb0⟩
      rw [show sizeCapS x.caps = n0 from (by have := HN.out; omega), S0.out]
      have A1 := Aside0.mk (A0.out.step (hb0.below)); clear A0 hb0; have z0 := A1.out.cell0
      go_wp2_with fail
      refine (szInsS _ _ _ (left - (n0 : Int)) _ (A1.out.reads pG3.out) (by omega) (by omega)).mono ?_
      rintro e w2 ⟨rfl, hb0⟩
      rw [show sizeInsS x.code = n1 from (by have := HN.out; omega), S1.out]
      have A2 := Aside0.mk (A1.out.step (hb0.below)); clear A1 hb0 z0; have z0 := A2.out.cell0
      go_wp2
      go_ret
      exact ⟨rfl, A2.out.below⟩
    · skip
      by_cases c2 : left - (n0 : Int) - (n1 : Int) < (n2 : Int)
      · skip
        have hfin : sub left (n0 + n1 + n2) = -1 := by unfold sub; rw [if_pos (by omega)]
        rw [hfin]; clear hfin
        have s0 : sub (left) n0 = left - (n0 : Int) := by unfold sub; rw [if_neg (by omega)]
        have d0 : decide (left - (n0 : Int) < 0) = false := by simp; omega
        have g0 : 0 ≤ left - (n0 : Int) := by omega
        have S0 := Aside0.mk s0; clear s0
        have s1 : sub (left - (n0 : Int)) n1 = left - (n0 : Int) - (n1 : Int) := by unfold sub; rw [if_neg (by omega)]
        have d1 : decide (left - (n0 : Int) - (n1 : Int) < 0) = false := by simp; omega
        have g1 : 0 ≤ left - (n0 : Int) - (n1 : Int) := by omega
        have S1 := Aside0.mk s1; clear s1
        have s2 : sub (left - (n0 : Int) - (n1 : Int)) n2 = -1 := by unfold sub; rw [if_pos (by omega)]
        have S2 := Aside0.mk s2; clear s2
        go_enter Try.func91, Try.ntmps91
        go_wp2_with fail
        refine (szCapS _ _ _ (left) _ (A0.out.reads pG2.out) (by omega) (by omega)).mono ?_
        rintro e w1 ⟨rfl, hb0⟩
        rw [show sizeCapS x.caps = n0 from (by have := HN.out; omega), S0.out]
        have A1 := Aside0.mk (A0.out.step (hb0.below)); clear A0 hb0; have z0 := A1.out.cell0
        go_wp2_with fail
        refine (szInsS _ _ _ (left - (n0 : Int)) _ (A1.out.reads pG3.out) (by omega) (by omega)).mono ?_
        rintro e w2 ⟨rfl, hb0⟩
        rw [show sizeInsS x.code = n1 from (by have := HN.out; omega), S1.out]
        have A2 := Aside0.mk (A1.out.step (hb0.below)); clear A1 hb0 z0; have z0 := A2.out.cell0
        go_wp2_with fail
        refine (szHandlerS _ _ _ (left - (n0 : Int) - (n1 : Int)) _ (A2.out.reads pG4.out) (by omega) (by omega)).mono ?_
        rintro e w3 ⟨rfl, hb0⟩
        rw [show sizeHandlerS x.handlers = n2 from (by have := HN.out; omega), S2.out]
        have A3 := Aside0.mk (A2.out.step (hb0.below)); clear A2 hb0 z0; have z0 := A3.out.cell0
        go_wp2
        go_ret
        exact ⟨rfl, A3.out.below⟩
      · skip
        have hfin : sub left (n0 + n1 + n2) = left - n0 - n1 - n2 := by unfold sub; rw [if_neg (by omega)] <;> omega
        rw [hfin]; clear hfin
        have s0 : sub (left) n0 = left - (n0 : Int) := by unfold sub; rw [if_neg (by omega)]
        have d0 : decide (left - (n0 : Int) < 0) = false := by simp; omega
        have g0 : 0 ≤ left - (n0 : Int) := by omega
        have S0 := Aside0.mk s0; clear s0
        have s1 : sub (left - (n0 : Int)) n1 = left - (n0 : Int) - (n1 : Int) := by unfold sub; rw [if_neg (by omega)]
        have d1 : decide (left - (n0 : Int) - (n1 : Int) < 0) = false := by simp; omega
        have g1 : 0 ≤ left - (n0 : Int) - (n1 : Int) := by omega
        have S1 := Aside0.mk s1; clear s1
        have s2 : sub (left - (n0 : Int) - (n1 : Int)) n2 = left - (n0 : Int) - (n1 : Int) - (n2 : Int) := by unfold sub; rw [if_neg (by omega)]
        have d2 : decide (left - (n0 : Int) - (n1 : Int) - (n2 : Int) < 0) = false := by simp; omega
        have g2 : 0 ≤ left - (n0 : Int) - (n1 : Int) - (n2 : Int) := by omega
        have S2 := Aside0.mk s2; clear s2
        go_enter Try.func91, Try.ntmps91
        go_wp2_with fail
        refine (szCapS _ _ _ (left) _ (A0.out.reads pG2.out) (by omega) (by omega)).mono ?_
        rintro e w1 ⟨rfl, hb0⟩
        rw [show sizeCapS x.caps = n0 from (by have := HN.out; omega), S0.out]
        have A1 := Aside0.mk (A0.out.step (hb0.below)); clear A0 hb0; have z0 := A1.out.cell0
        go_wp2_with fail
        refine (szInsS _ _ _ (left - (n0 : Int)) _ (A1.out.reads pG3.out) (by omega) (by omega)).mono ?_
        rintro e w2 ⟨rfl, hb0⟩
        rw [show sizeInsS x.code = n1 from (by have := HN.out; omega), S1.out]
        have A2 := Aside0.mk (A1.out.step (hb0.below)); clear A1 hb0 z0; have z0 := A2.out.cell0
        go_wp2_with fail
        refine (szHandlerS _ _ _ (left - (n0 : Int) - (n1 : Int)) _ (A2.out.reads pG4.out) (by omega) (by omega)).mono ?_
        rintro e w3 ⟨rfl, hb0⟩
        rw [show sizeHandlerS x.handlers = n2 from (by have := HN.out; omega), S2.out]
        have A3 := Aside0.mk (A2.out.step (hb0.below)); clear A2 hb0 z0; have z0 := A3.out.cell0
        go_wp2
        go_ret
        exact ⟨rfl, A3.out.below⟩
def sizeConstS (l : List Const) : Nat := l.length + (l.map sizeConst).sum
theorem sizeConstS_take (l : List Const) (j : Nat) (h : j < l.length) : ((l.take (j + 1)).map sizeConst).sum = ((l.take j).map sizeConst).sum + sizeConst (el zConst l j) := by
  rw [List.take_succ_eq_append_getElem h, List.map_append, List.sum_append, el_lt zConst h]
  simp
theorem sizeConstS_le (l : List Const) (j : Nat) : ((l.take j).map sizeConst).sum ≤ (l.map sizeConst).sum := by
  have h : ((l.take j ++ l.drop j).map sizeConst).sum = (l.map sizeConst).sum := by rw [List.take_append_drop]
  rw [List.map_append, List.sum_append] at h
  omega
set_option maxHeartbeats 4000000 in
set_option maxRecDepth 100000 in
theorem szConstS (A : Option Addr) (c : Nat) (l : List Const) (left : Int) (w : World) (hr : kConst.C w A l.length l) (hgood : ∀ y ∈ l, GoodConst y) (h0 : 0 ≤ left) (h1 : left ≤ 1048576) :
    Calls Try.prog 50 #[.slice A l.length c, .int .i64 left] w fun e w' => e = .returned (.int .i64 (sub left (sizeConstS l))) ∧ Below w.heap.size w w' := by
  have hL : l.length ≤ 9223372036854775807 := hr.2.1
  have HR := Aside0.mk hr; have HG := Aside0.mk hgood; clear hr hgood
  by_cases h : left < (l.length : Int)
  · have hfin : sub left (sizeConstS l) = -1 := by unfold sub sizeConstS; rw [if_pos (by omega)]
    rw [hfin]; clear hfin
    have d1 : decide (left - (l.length : Int) < 0) = true := by simp; omega
    have d2 : decide (left < (l.length : Int)) = true := by simp; omega
    go_enter Try.func50, Try.ntmps50
    go_wp2
    go_ret
    exact ⟨rfl, Below.refl _ _⟩
  · have d1 : decide (left - (l.length : Int) < 0) = false := by simp; omega
    have d2 : decide (left < (l.length : Int)) = false := by simp; omega
    go_enter Try.func50, Try.ntmps50
    go_wp2
    go_loopw [1, 5] (fun u v wr => ∃ (j : Nat) (r : Int), v = .int .i64 j ∧ u = .int .i64 r ∧ j ≤ l.length ∧ 0 ≤ r ∧ r ≤ 1048576 ∧ Aside0 (r = left - (l.length : Int) - (((l.take j).map sizeConst).sum : Nat)) ∧ Aside0 (Below w.heap.size w wr)) (fun _ v _ => l.length - (intOf v).toNat)
    case atStart => exact ⟨0, left - (l.length : Int), rfl, rfl, by omega, by omega, by omega, ⟨by simp⟩, ⟨Below.refl _ _⟩⟩
    case round =>
      obtain ⟨j, r, rfl, rfl, hj, hr0, hr1, HE, HW⟩ := hrel
      by_cases hlt : j < l.length
      · obtain ⟨pa, rfl, pK, px0, px1, px2⟩ := Const_at (Kd.C_below HR.out HW.out) j hlt
        have pK2 := Aside0.mk pK; clear pK
        have HGj := Aside0.mk (HG.out _ (el_mem zConst hlt))
        have i1 : (0 : Int) ≤ (j : Int) := by omega
        have i2 : (j : Int) < (l.length : Int) := by omega
        have HT := Aside0.mk (sizeConstS_take l j hlt); have HM := Aside0.mk (sizeConstS_le l (j + 1))
        obtain ⟨m, hm⟩ : ∃ m, m = sizeConst (el zConst l j) := ⟨_, rfl⟩
        have HMM := Aside0.mk hm; clear hm
        by_cases c0 : r < (m : Int)
        · have s0 : sub r m = -1 := by unfold sub; rw [if_pos c0]
          have hfin : sub left (sizeConstS l) = -1 := by unfold sub sizeConstS; rw [if_pos (by have := HE.out; have := HT.out; have := HM.out; have := HMM.out; omega)]
          have HF := Aside0.mk hfin; clear hfin
          have S0 := Aside0.mk s0; clear s0
          go_wp2_with fail
          refine (szConst (el zConst l j) _ r _ pK2.out HGj.out hr0 hr1).mono ?_
          rintro e w1 ⟨rfl, hb⟩
          rw [← HMM.out, S0.out]
          go_wp2
          go_ret
          exact ⟨by rw [HF.out]; rfl, below_step HW.out hb⟩
        · have s0 : sub r m = r - m := by unfold sub; rw [if_neg c0]
          have d3 : decide (r - (m : Int) < 0) = false := by simp; omega
          have g3 : 0 ≤ r - (m : Int) := by omega
          have S0 := Aside0.mk s0; clear s0
          go_wp2_with fail
          refine (szConst (el zConst l j) _ r _ pK2.out HGj.out hr0 hr1).mono ?_
          rintro e w1 ⟨rfl, hb⟩
          rw [← HMM.out, S0.out]
          go_wp2
          go_roundw
          case rel => exact ⟨j + 1, r - (m : Int), by go_num, rfl, by omega, by omega, by omega, ⟨by have := HE.out; have := HT.out; have := HMM.out; omega⟩, ⟨below_step HW.out hb⟩⟩
          case measure => simp [intOf]; omega
      · have hjl : j = l.length := by omega
        have hfin : sub left (sizeConstS l) = r := by have h := HE.out; rw [hjl, List.take_length] at h; unfold sub sizeConstS; rw [if_neg (by omega)]; omega
        have HF := Aside0.mk hfin; clear hfin hjl
        go_wp2
        go_ret
        exact ⟨by rw [HF.out]; rfl, HW.out⟩
def sizeFuncS (l : List Func) : Nat := l.length + (l.map sizeFunc).sum
theorem sizeFuncS_take (l : List Func) (j : Nat) (h : j < l.length) : ((l.take (j + 1)).map sizeFunc).sum = ((l.take j).map sizeFunc).sum + sizeFunc (el zFunc l j) := by
  rw [List.take_succ_eq_append_getElem h, List.map_append, List.sum_append, el_lt zFunc h]
  simp
theorem sizeFuncS_le (l : List Func) (j : Nat) : ((l.take j).map sizeFunc).sum ≤ (l.map sizeFunc).sum := by
  have h : ((l.take j ++ l.drop j).map sizeFunc).sum = (l.map sizeFunc).sum := by rw [List.take_append_drop]
  rw [List.map_append, List.sum_append] at h
  omega
set_option maxHeartbeats 4000000 in
set_option maxRecDepth 100000 in
theorem szFuncS (A : Option Addr) (c : Nat) (l : List Func) (left : Int) (w : World) (hr : kFuncL.C w A l.length l) (hgood : ∀ y ∈ l, GoodFunc y) (h0 : 0 ≤ left) (h1 : left ≤ 1048576) :
    Calls Try.prog 49 #[.slice A l.length c, .int .i64 left] w fun e w' => e = .returned (.int .i64 (sub left (sizeFuncS l))) ∧ Below w.heap.size w w' := by
  have hL : l.length ≤ 9223372036854775807 := hr.2.1
  have HR := Aside0.mk hr; have HG := Aside0.mk hgood; clear hr hgood
  by_cases h : left < (l.length : Int)
  · have hfin : sub left (sizeFuncS l) = -1 := by unfold sub sizeFuncS; rw [if_pos (by omega)]
    rw [hfin]; clear hfin
    have d1 : decide (left - (l.length : Int) < 0) = true := by simp; omega
    have d2 : decide (left < (l.length : Int)) = true := by simp; omega
    go_enter Try.func49, Try.ntmps49
    go_wp2
    go_ret
    exact ⟨rfl, Below.refl _ _⟩
  · have d1 : decide (left - (l.length : Int) < 0) = false := by simp; omega
    have d2 : decide (left < (l.length : Int)) = false := by simp; omega
    go_enter Try.func49, Try.ntmps49
    go_wp2
    go_loopw [1, 5] (fun u v wr => ∃ (j : Nat) (r : Int), v = .int .i64 j ∧ u = .int .i64 r ∧ j ≤ l.length ∧ 0 ≤ r ∧ r ≤ 1048576 ∧ Aside0 (r = left - (l.length : Int) - (((l.take j).map sizeFunc).sum : Nat)) ∧ Aside0 (Below w.heap.size w wr)) (fun _ v _ => l.length - (intOf v).toNat)
    case atStart => exact ⟨0, left - (l.length : Int), rfl, rfl, by omega, by omega, by omega, ⟨by simp⟩, ⟨Below.refl _ _⟩⟩
    case round =>
      obtain ⟨j, r, rfl, rfl, hj, hr0, hr1, HE, HW⟩ := hrel
      by_cases hlt : j < l.length
      · obtain ⟨pa, pA2, pc2, pA3, pc3, pA4, pc4, rfl, pK, px0, px1, px2, px3, px4⟩ := FuncL_at (Kd.C_below HR.out HW.out) j hlt
        have pK2 := Aside0.mk pK; clear pK
        have HGj := Aside0.mk (HG.out _ (el_mem zFunc hlt))
        have i1 : (0 : Int) ≤ (j : Int) := by omega
        have i2 : (j : Int) < (l.length : Int) := by omega
        have HT := Aside0.mk (sizeFuncS_take l j hlt); have HM := Aside0.mk (sizeFuncS_le l (j + 1))
        obtain ⟨m, hm⟩ : ∃ m, m = sizeFunc (el zFunc l j) := ⟨_, rfl⟩
        have HMM := Aside0.mk hm; clear hm
        by_cases c0 : r < (m : Int)
        · have s0 : sub r m = -1 := by unfold sub; rw [if_pos c0]
          have hfin : sub left (sizeFuncS l) = -1 := by unfold sub sizeFuncS; rw [if_pos (by have := HE.out; have := HT.out; have := HM.out; have := HMM.out; omega)]
          have HF := Aside0.mk hfin; clear hfin
          have S0 := Aside0.mk s0; clear s0
          go_wp2_with fail
          refine (szFunc (el zFunc l j) _ r _ pK2.out HGj.out hr0 hr1).mono ?_
          rintro e w1 ⟨rfl, hb⟩
          rw [← HMM.out, S0.out]
          go_wp2
          go_ret
          exact ⟨by rw [HF.out]; rfl, below_step HW.out hb⟩
        · have s0 : sub r m = r - m := by unfold sub; rw [if_neg c0]
          have d3 : decide (r - (m : Int) < 0) = false := by simp; omega
          have g3 : 0 ≤ r - (m : Int) := by omega
          have S0 := Aside0.mk s0; clear s0
          go_wp2_with fail
          refine (szFunc (el zFunc l j) _ r _ pK2.out HGj.out hr0 hr1).mono ?_
          rintro e w1 ⟨rfl, hb⟩
          rw [← HMM.out, S0.out]
          go_wp2
          go_roundw
          case rel => exact ⟨j + 1, r - (m : Int), by go_num, rfl, by omega, by omega, by omega, ⟨by have := HE.out; have := HT.out; have := HMM.out; omega⟩, ⟨below_step HW.out hb⟩⟩
          case measure => simp [intOf]; omega
      · have hjl : j = l.length := by omega
        have hfin : sub left (sizeFuncS l) = r := by have h := HE.out; rw [hjl, List.take_length] at h; unfold sub sizeFuncS; rw [if_neg (by omega)]; omega
        have HF := Aside0.mk hfin; clear hfin hjl
        go_wp2
        go_ret
        exact ⟨by rw [HF.out]; rfl, HW.out⟩
def sizeImage (x : Image) : Nat := sizeFuncS x.funcs + sizeConstS x.consts
def GoodImage (x : Image) : Prop := (∀ y ∈ x.funcs, GoodFunc y) ∧ (∀ y ∈ x.consts, GoodConst y)
set_option maxHeartbeats 4000000 in
set_option maxRecDepth 100000 in
theorem szImage (x : Image) (cs : List Value) (left : Int) (w : World) (hk : kImageL.K w x cs) (hgood : GoodImage x) (h0 : 0 ≤ left) (h1 : left ≤ 1048576) :
    Calls Try.prog 12 #[.agg ⟨cs⟩, .int .i64 left] w fun e w' => e = .returned (.int .i64 (sub left (sizeImage x))) ∧ Below w.heap.size w w' := by
  obtain ⟨pA0, pc0, pA1, pc1, rfl, pl0, pg0, pl1, pg1⟩ := kImageL_open hk
  have pG0 := Aside0.mk pg0; clear pg0 pl0
  have pG1 := Aside0.mk pg1; clear pg1 pl1
  clear hk
  have hu := Try.underlying25
  unfold GoodImage at hgood
  have HG := Aside0.mk hgood
  have A0 := Aside0.mk ((At.start w).alloc #[.slice pA0 x.funcs.length pc0, .slice pA1 x.consts.length pc1] 25)
  obtain ⟨n0, hn0⟩ : ∃ q, q = sizeFuncS x.funcs := ⟨_, rfl⟩
  obtain ⟨n1, hn1⟩ : ∃ q, q = sizeConstS x.consts := ⟨_, rfl⟩
  have HN := Aside0.mk (show n0 = sizeFuncS x.funcs ∧ n1 = sizeConstS x.consts from ⟨hn0, hn1⟩)
  clear hn0
  clear hn1
  clear hgood
  have hsize : sizeImage x = n0 + n1 := by unfold sizeImage; have h := HN.out; omega
  rw [hsize]; have HSZ := Aside0.mk hsize; clear hsize
  by_cases c0 : left < (n0 : Int)
  · skip
    have hfin : sub left (n0 + n1) = -1 := by unfold sub; rw [if_pos (by omega)]
    rw [hfin]; clear hfin
    have s0 : sub (left) n0 = -1 := by unfold sub; rw [if_pos (by omega)]
    have S0 := Aside0.mk s0; clear s0
    go_enter Try.func12, Try.ntmps12
    go_wp2_with fail
    refine (szFuncS _ _ _ (left) _ (A0.out.reads pG0.out) (HG.out.1) (by omega) (by omega)).mono ?_
    rintro e w1 ⟨rfl, hb0⟩
    rw [show sizeFuncS x.funcs = n0 from (by have := HN.out; omega), S0.out]
    have A1 := Aside0.mk (A0.out.step (hb0)); clear A0 hb0; have z0 := A1.out.cell0
    go_wp2
    go_ret
    exact ⟨rfl, A1.out.below⟩
  · skip
    by_cases c1 : left - (n0 : Int) < (n1 : Int)
    · skip
      have hfin : sub left (n0 + n1) = -1 := by unfold sub; rw [if_pos (by omega)]
      rw [hfin]; clear hfin
      have s0 : sub (left) n0 = left - (n0 : Int) := by unfold sub; rw [if_neg (by omega)]
      have d0 : decide (left - (n0 : Int) < 0) = false := by simp; omega
      have g0 : 0 ≤ left - (n0 : Int) := by omega
      have S0 := Aside0.mk s0; clear s0
      have s1 : sub (left - (n0 : Int)) n1 = -1 := by unfold sub; rw [if_pos (by omega)]
      have S1 := Aside0.mk s1; clear s1
      go_enter Try.func12, Try.ntmps12
      go_wp2_with fail
      refine (szFuncS _ _ _ (left) _ (A0.out.reads pG0.out) (HG.out.1) (by omega) (by omega)).mono ?_
      rintro e w1 ⟨rfl, hb0⟩
      rw [show sizeFuncS x.funcs = n0 from (by have := HN.out; omega), S0.out]
      have A1 := Aside0.mk (A0.out.step (hb0)); clear A0 hb0; have z0 := A1.out.cell0
      go_wp2_with fail
      refine (szConstS _ _ _ (left - (n0 : Int)) _ (A1.out.reads pG1.out) (HG.out.2) (by omega) (by omega)).mono ?_
      rintro e w2 ⟨rfl, hb0⟩
      rw [show sizeConstS x.consts = n1 from (by have := HN.out; omega), S1.out]
      have A2 := Aside0.mk (A1.out.step (hb0)); clear A1 hb0 z0; have z0 := A2.out.cell0
      go_wp2
      go_ret
      exact ⟨rfl, A2.out.below⟩
    · skip
      have hfin : sub left (n0 + n1) = left - n0 - n1 := by unfold sub; rw [if_neg (by omega)] <;> omega
      rw [hfin]; clear hfin
      have s0 : sub (left) n0 = left - (n0 : Int) := by unfold sub; rw [if_neg (by omega)]
      have d0 : decide (left - (n0 : Int) < 0) = false := by simp; omega
      have g0 : 0 ≤ left - (n0 : Int) := by omega
      have S0 := Aside0.mk s0; clear s0
      have s1 : sub (left - (n0 : Int)) n1 = left - (n0 : Int) - (n1 : Int) := by unfold sub; rw [if_neg (by omega)]
      have d1 : decide (left - (n0 : Int) - (n1 : Int) < 0) = false := by simp; omega
      have g1 : 0 ≤ left - (n0 : Int) - (n1 : Int) := by omega
      have S1 := Aside0.mk s1; clear s1
      go_enter Try.func12, Try.ntmps12
      go_wp2_with fail
      refine (szFuncS _ _ _ (left) _ (A0.out.reads pG0.out) (HG.out.1) (by omega) (by omega)).mono ?_
      rintro e w1 ⟨rfl, hb0⟩
      rw [show sizeFuncS x.funcs = n0 from (by have := HN.out; omega), S0.out]
      have A1 := Aside0.mk (A0.out.step (hb0)); clear A0 hb0; have z0 := A1.out.cell0
      go_wp2_with fail
      refine (szConstS _ _ _ (left - (n0 : Int)) _ (A1.out.reads pG1.out) (HG.out.2) (by omega) (by omega)).mono ?_
      rintro e w2 ⟨rfl, hb0⟩
      rw [show sizeConstS x.consts = n1 from (by have := HN.out; omega), S1.out]
      have A2 := Aside0.mk (A1.out.step (hb0)); clear A1 hb0 z0; have z0 := A2.out.cell0
      go_wp2
      go_ret
      exact ⟨rfl, A2.out.below⟩
end Go.Proofs.Ytcbaokflimdjnaa
end
section
namespace Go.Proofs.Ytcbaokflimdjnaa
open Go.RowKit Go.Proofs.YtcbaokflimdjnaaW.PrintWords Go.Proofs.YtcbaokflimdjnaaW.PrintMore Go.Proofs.Ytcbaokflimdjnaa.Law Go.Proofs.Ytcbaokflimdjnaa.Num
set_option linter.unusedVariables false
set_option linter.unusedSimpArgs false
set_option autoImplicit false
set_option maxHeartbeats 4000000 in
set_option maxRecDepth 100000 in
theorem eqIntS (A B : Option Addr) (c d : Nat) (l m : List Int) (w : World) (hr : (Kd.int .i64).C w A l.length l) (hr2 : (Kd.int .i64).C w B m.length m) :
    Calls Try.prog 42 #[.slice A l.length c, .slice B m.length d] w fun e w' => e = .returned (.bool (decide (l = m))) ∧ Drawn0 w w' := by
  have hL : l.length ≤ 9223372036854775807 := hr.2.1
  by_cases hlen : l.length = m.length
  · have b1 : ((l.length : Int) != (m.length : Int)) = false := by simp [hlen]
    have HR := Aside0.mk hr; have HR2 := Aside0.mk hr2; have HL := Aside0.mk hlen
    clear hr hr2 hlen
    go_enter Try.func42, Try.ntmps42
    go_wp2
    go_loopw [5] (fun v wr => ∃ j : Nat, v = .int .i64 j ∧ j ≤ l.length ∧ Aside0 (∀ i : Nat, i < j → el 0 l i = el 0 m i) ∧ Drawn0 w wr) (fun v _ => l.length - (intOf v).toNat)
    case atStart => exact ⟨0, rfl, by omega, ⟨fun i hi => by omega⟩, Drawn0.refl _⟩
    case round =>
      obtain ⟨j, rfl, hj, HE, HW⟩ := hrel
      obtain ⟨⟨n, rfl⟩⟩ := HW
      by_cases hlt : j < l.length
      · obtain ⟨a, rfl, ha⟩ := int_at HR.out j hlt
        obtain ⟨a2, rfl, ha2⟩ := int_at HR2.out j (by have := HL.out; omega)
        have i1 : (0 : Int) ≤ (j : Int) := by omega
        have i2 : (j : Int) < (l.length : Int) := by omega
        have i3 : (j : Int) < (m.length : Int) := by have := HL.out; omega
        by_cases he : el 0 l j = el 0 m j
        · have b2 : (el 0 l j != el 0 m j) = false := by simpa using he
          have HE2 := Aside0.mk he
          clear he
          go_wp2
          go_quiet (fail)
          go_wp2
          go_roundw
          case rel => exact ⟨j + 1, by go_num, by omega, ⟨fun i hi => by rcases Nat.lt_succ_iff_lt_or_eq.1 hi with h | h; exact HE.out i h; rw [h]; exact HE2.out⟩, (by first | exact ⟨⟨_, rfl⟩⟩ | exact Drawn0.step ⟨⟨_, rfl⟩⟩ _)⟩
          case measure => simp [intOf]; omega
        · have b2 : (el 0 l j != el 0 m j) = true := by simpa using he
          have HE2 := Aside0.mk he
          clear he
          go_wp2
          go_quiet (fail)
          go_wp2
          go_ret
          exact ⟨by rw [decide_eq_false (fun h => HE2.out (by rw [h]))]; rfl, (by first | exact ⟨⟨_, rfl⟩⟩ | exact Drawn0.step ⟨⟨_, rfl⟩⟩ _)⟩
      · go_wp2
        go_ret
        exact ⟨by rw [decide_eq_true (el_ext 0 HL.out (fun i hi => HE.out i (by omega)))]; rfl, ⟨⟨_, rfl⟩⟩⟩
  · have b1 : ((l.length : Int) != (m.length : Int)) = true := by simp; omega
    have HL := Aside0.mk hlen
    clear hr hr2 hlen
    go_enter Try.func42, Try.ntmps42
    go_wp2
    go_ret
    exact ⟨by rw [decide_eq_false (fun h => HL.out (by rw [h]))]; rfl, Drawn0.refl _⟩
set_option maxHeartbeats 4000000 in
set_option maxRecDepth 100000 in
theorem eqState (x y : State) (cs ds : List Value) (w : World) (hk : kStateI.K w x cs) (hk2 : kStateI.K w y ds) :
    Calls Try.prog 18 #[.agg ⟨cs⟩, .agg ⟨ds⟩] w fun e w' => e = .returned (.bool (decide (x = y))) ∧ Below w.heap.size w w' := by
  obtain ⟨pA1, pc1, rfl, pl1, pg1⟩ := kStateI_open hk
  have pG1 := Aside0.mk pg1; have pL1 := Aside0.mk pl1; clear pg1 pl1
  obtain ⟨qA1, qc1, rfl, ql1, qg1⟩ := kStateI_open hk2
  have qG1 := Aside0.mk qg1; have qL1 := Aside0.mk ql1; clear qg1 ql1
  clear hk hk2
  have hu := Try.underlying31
  have A0 := Aside0.mk (((At.start w).alloc #[.int .i64 x.acc, .slice pA1 x.regs.length pc1] 31).alloc #[.int .i64 y.acc, .slice qA1 y.regs.length qc1] 31)
  rw [show (w.alloc (.cells #[.int .i64 x.acc, .slice pA1 x.regs.length pc1] 31)).heap.size = w.heap.size + 1 by simp] at A0
  by_cases h0 : x.acc = y.acc
  · skip
    have b0 : (x.acc == y.acc) = true := beq_iff_eq.mpr h0
    have d0 : (x.acc != y.acc) = false := bne_eq_false_iff_eq.mpr h0
    by_cases h1 : x.regs = y.regs
    · skip
      have d1 : decide (x.regs = y.regs) = true := decide_eq_true h1
      have hfin : decide (x = y) = true := decide_eq_true (by cases x; cases y; simp_all)
      have HF := Aside0.mk hfin
      clear hfin
      clear h0
      clear h1
      go_enter Try.func18, Try.ntmps18
      go_wp2_with fail
      refine (eqIntS _ _ _ _ _ _ _ (A0.out.reads pG1.out) (A0.out.reads qG1.out)).mono ?_
      rintro e w1 ⟨rfl, hb0⟩
      have hb : Below _ _ w1 := hb0.below
      have A1 := Aside0.mk (A0.out.step hb)
      clear hb hb0 A0
      have z0 := A1.out.cell1; have z1 := A1.out.cell0
      go_wp2
      go_ret
      exact ⟨by rw [HF.out]; rfl, A1.out.below⟩
    · skip
      have d1 : decide (x.regs = y.regs) = false := decide_eq_false h1
      have hfin : decide (x = y) = false := decide_eq_false (fun e => h1 (by rw [e]))
      have HF := Aside0.mk hfin
      clear hfin
      clear h0
      clear h1
      go_enter Try.func18, Try.ntmps18
      go_wp2_with fail
      refine (eqIntS _ _ _ _ _ _ _ (A0.out.reads pG1.out) (A0.out.reads qG1.out)).mono ?_
      rintro e w1 ⟨rfl, hb0⟩
      have hb : Below _ _ w1 := hb0.below
      have A1 := Aside0.mk (A0.out.step hb)
      clear hb hb0 A0
      have z0 := A1.out.cell1; have z1 := A1.out.cell0
      go_wp2
      go_ret
      exact ⟨by rw [HF.out]; rfl, A1.out.below⟩
  · skip
    have b0 : (x.acc == y.acc) = false := beq_eq_false_iff_ne.mpr h0
    have d0 : (x.acc != y.acc) = true := bne_iff_ne.mpr h0
    have hfin : decide (x = y) = false := decide_eq_false (fun e => h0 (by rw [e]))
    have HF := Aside0.mk hfin
    clear hfin
    clear h0
    go_enter Try.func18, Try.ntmps18
    go_wp2
    go_ret
    exact ⟨by rw [HF.out]; rfl, by repeat (first | exact Below.refl _ _ | apply below_alloc | apply below_drew1 | apply pw_below_drewN | assumption)⟩
end Go.Proofs.Ytcbaokflimdjnaa
end
section
namespace Go.Proofs.Ytcbaokflimdjnaa
open Go.RowKit Go.Proofs.YtcbaokflimdjnaaW.PrintWords Go.Proofs.YtcbaokflimdjnaaW.PrintMore Go.Proofs.Ytcbaokflimdjnaa.Law Go.Proofs.Ytcbaokflimdjnaa.Num
set_option linter.unusedVariables false
set_option linter.unusedSimpArgs false
set_option autoImplicit false
/-- k, k + 1, .. : n of them. -/
def marks (k : Int) (n : Nat) : List Int := (List.range n).map (fun (i : Nat) => k + (i : Int))
theorem marks_len (k : Int) (n : Nat) : (marks k n).length = n := by simp [marks]
theorem el_marks (k : Int) {n j : Nat} (h : j < n) : el 0 (marks k n) j = k + j := by simp [el, marks, h]
set_option maxHeartbeats 4000000 in
set_option maxRecDepth 100000 in
theorem markIntS (v1 : Value) (l : List Int) (k : Int) (w0 w : World) (lo : Nat) (ok : Nat → Prop) (hB : Below w0.heap.size w0 w) (hlo : w0.heap.size ≤ lo) (hr : (Kd.int .i64).R 3 w lo ok v1 l) (h0 : 0 ≤ k) (h1 : k + l.length ≤ 4611686018427387904) :
    Calls Try.prog 43 #[v1, .int .i64 k] w fun e w' => e = .returned (.int .i64 (k + l.length)) ∧ (Kd.int .i64).R 3 w' lo ok v1 (marks k l.length) ∧ Below w0.heap.size w0 w' ∧ Kept w w' ok := by
  have HB := Aside0.mk hB
  have HO := Aside0.mk hr
  have HK := Aside0.mk (Kept.refl w ok)
  have HOK := Aside0.mk hr.1
  obtain ⟨A, c, rfl⟩ := Kd.R_slice hr
  clear hB hr
  go_enter Try.func43, Try.ntmps43
  go_wp2
  go_loopw [1, 5] (fun u v wr => ∃ (j : Nat) (xs : List Int), u = .int .i64 (k + j) ∧ v = .int .i64 j ∧ j ≤ l.length ∧ xs.length = l.length ∧ Aside0 (∀ i : Nat, i < j → el 0 xs i = el 0 (marks k l.length) i) ∧ Aside0 ((Kd.int .i64).R 3 wr lo ok (.slice A l.length c) xs) ∧ Aside0 (Below w0.heap.size w0 wr) ∧ Aside0 (Kept w wr ok)) (fun u v _ => l.length - (intOf v).toNat)
  case atStart => exact ⟨0, _, by simp, rfl, by omega, rfl, ⟨fun i hi => by omega⟩, HO, HB, HK⟩
  case round =>
    clear HO HB HK
    obtain ⟨j, xs, rfl, rfl, hj, hn, HE, HO, HB, HK⟩ := hrel
    by_cases hlt : j < l.length
    · obtain ⟨go, co, hv, gb, gl, cl, HG⟩ := Kd.R_form HO.out (by omega)
      rw [hn] at hv
      have hg : ok go := HOK.out go (by rw [hv]; simp [Value.ownBlock])
      injection hv with hA _ hc
      subst hA; subst hc
      obtain ⟨hx0, hf0⟩ := Kd.R_celln 0 HO.out (j : Int) (by omega) (by omega)
      rw [Int.toNat_natCast] at hx0 hf0
      have HP := Aside0.mk (Kd.R_putg HO.out (j : Int) (k + j)).1
      have GB := Aside0.mk gb
      have GK := Aside0.mk hg
      have hb2 : (j : Int) < (l.length : Int) := by omega
      clear gb gl HG hg
      go_wp2
      go_roundw
      case measure => simp [intOf]; omega
      case rel => exact ⟨j + 1, _, by go_num, by go_num, by omega, by simpa using hn, ⟨fun i hi => by rcases Nat.lt_succ_iff_lt_or_eq.1 hi with h | h; (rw [el_set_ne (by omega)]; exact HE.out i h); subst h; rw [el_marks k hlt]; exact el_set_eq (by omega)⟩, HP, ⟨below_set HB.out (Nat.le_trans hlo GB.out)⟩, ⟨Kept.setCell HK.out (.inl GK.out) _⟩⟩
    · have hb2 : ¬ (j : Int) < (l.length : Int) := by omega
      have hj2 : j = l.length := by omega
      have he : xs = marks k l.length := el_ext 0 (by rw [hn, marks_len]) (fun i hi => HE.out i (by omega))
      subst he
      subst hj2
      go_wp2
      go_ret
      exact ⟨rfl, HO.out, HB.out, HK.out⟩
set_option maxHeartbeats 4000000 in
set_option maxRecDepth 100000 in
theorem heldIntS (A : Option Addr) (c n : Nat) (l : List Int) (k : Int) (w : World) (hr : (Kd.int .i64).C w A l.length l) (hl : l = marks k n) (h0 : 0 ≤ k) (h1 : k + l.length ≤ 4611686018427387904) :
    Calls Try.prog 44 #[.slice A l.length c, .int .i64 k] w fun e w' => e = .returned (.int .i64 (k + l.length)) ∧ Below w.heap.size w w' := by
  have HR := Aside0.mk hr; clear hr
  have hn : l.length = n := by rw [hl, marks_len]
  have HL := Aside0.mk hl
  clear hl
  have HB := Aside0.mk (Below.refl w.heap.size w)
  go_enter Try.func44, Try.ntmps44
  go_wp2
  go_loopw [1, 5] (fun u v wr => ∃ (j : Nat), u = .int .i64 (k + j) ∧ v = .int .i64 j ∧ j ≤ l.length ∧ Aside0 (Below w.heap.size w wr)) (fun u v _ => l.length - (intOf v).toNat)
  case atStart => exact ⟨0, by simp, rfl, by omega, HB⟩
  case round =>
    clear HB
    obtain ⟨j, rfl, rfl, hj, HB⟩ := hrel
    by_cases hlt : j < l.length
    · obtain ⟨a, rfl, ha⟩ := int_at HR.out j hlt
      have hxa := (HB.out.cell (World.block_lt_of_cell? w _ ha)).trans ha
      have he : el 0 l j = k + j := by rw [HL.out]; exact el_marks k (by omega)
      rw [he] at hxa
      have hq : (k + (j : Int) != k + (j : Int)) = false := by simp
      have hb2 : (j : Int) < (l.length : Int) := by omega
      clear ha he
      go_wp2
      go_roundw
      case measure => simp [intOf]; omega
      case rel => exact ⟨j + 1, by go_num, by go_num, by omega, HB⟩
    · have hb2 : ¬ (j : Int) < (l.length : Int) := by omega
      have hj2 : j = l.length := by omega
      subst hj2
      go_wp2
      go_ret
      exact ⟨rfl, HB.out⟩
end Go.Proofs.Ytcbaokflimdjnaa
end
section
namespace Go.Proofs.Ytcbaokflimdjnaa
open Go.RowKit Go.Proofs.YtcbaokflimdjnaaW.PrintWords Go.Proofs.YtcbaokflimdjnaaW.PrintMore
set_option linter.unusedVariables false
/-- A row whose elements lead to nothing in common. -/
def sliceS {α : Type} (e : Nat) (d : Kd α) : Kd (List α) where
  sz := 1
  E := e :: d.E
  K := (Kd.slice e d).K
  M := fun w base ok xs cs => ∃ v, cs = [v] ∧ Kd.S d e w base ok v xs
  K_len := (Kd.slice e d).K_len
  K_one := (Kd.slice e d).K_one
  K_below := (Kd.slice e d).K_below
  K_of_M := fun ⟨v, h, hs⟩ => (Kd.slice e d).K_of_M ⟨v, h, Kd.S_R hs⟩
  M_mono := fun hok ⟨v, h, hs⟩ => ⟨v, h, Kd.S_mono hs hok⟩
  M_bound := fun ⟨v, h, hs⟩ => ⟨v, h, Kd.S_bound hs⟩
  M_move := fun hm ⟨v, h, hs⟩ => ⟨v, h, Kd.S_move hs hm⟩
  M_lower := fun hb ⟨v, h, hs⟩ => ⟨v, h, Kd.S_lower hs hb⟩
def kImageA : Kd Image := Kd.iso (Kd.pair (sliceS 73 kFuncI) (Kd.slice 100 kConst)) (fun x : Image => (x.funcs, x.consts))
theorem kImageA_K (w : World) (x : Image) (cs : List Value) : kImageA.K w x cs = kImageI.K w x cs := rfl
theorem kImageA_openM {w : World} {base : Nat} {ok : Nat → Prop} {x : Image} {cs : List Value} (h : kImageA.M w base ok x cs) : ∃ v0 v1, cs = [v0, v1] ∧ Kd.S kFuncI 73 w base ok v0 x.funcs ∧ kConst.R 100 w base ok v1 x.consts := by
  obtain ⟨_, _, rfl, ⟨v0, rfl, g0⟩, ⟨v1, rfl, g1⟩⟩ := h
  exact ⟨v0, v1, rfl, g0, g1⟩
theorem kImageA_mkM (w : World) (base : Nat) (ok : Nat → Prop) (x : Image) {v0 : Value} (g0 : Kd.S kFuncI 73 w base ok v0 x.funcs) {v1 : Value} (g1 : kConst.R 100 w base ok v1 x.consts) : kImageA.M w base ok x [v0, v1] := ⟨_, _, rfl, ⟨_, rfl, g0⟩, ⟨_, rfl, g1⟩⟩
end Go.Proofs.Ytcbaokflimdjnaa
end
section
namespace Go.Proofs.Ytcbaokflimdjnaa
open Go.RowKit Go.Proofs.YtcbaokflimdjnaaW.PrintWords Go.Proofs.YtcbaokflimdjnaaW.PrintMore Go.Proofs.Ytcbaokflimdjnaa.Law Go.Proofs.Ytcbaokflimdjnaa.Num
set_option linter.unusedVariables false
set_option linter.unusedSimpArgs false
set_option autoImplicit false
theorem bool_at {w : World} {A : Option Addr} {l : List Bool} (h : Kd.bool.C w A l.length l) (j : Nat) (hj : j < l.length) : ∃ a, A = some a ∧ w.cell? (a.add j) = some (.bool (el false l j)) := by
  obtain ⟨a, c, e, hK, hc⟩ := kd_at false h j hj
  have hc' : c = [.bool (el false l j)] := hK
  subst hc'
  exact ⟨a, e, by simpa [Kd.bool, Kd.scalar] using hc 0 _ rfl⟩
def cntState (x : State) : Nat := 1 + x.regs.length
def mkState (x : State) (k : Int) : State := ⟨k, marks (k + 1) x.regs.length⟩
def cntSts (l : List State) : Nat := (l.map cntState).sum
def mkSts (k : Int) (l : List State) : List State := (List.range l.length).map (fun (j : Nat) => mkState (el zState l j) (k + (cntSts (l.take j) : Int)))
theorem mkSts_len (k : Int) (l : List State) : (mkSts k l).length = l.length := by simp [mkSts]
theorem el_mkSts (k : Int) {l : List State} {j : Nat} (h : j < l.length) : el zState (mkSts k l) j = mkState (el zState l j) (k + (cntSts (l.take j) : Int)) := by
  unfold mkSts
  rw [el_lt zState (by simpa using h), List.getElem_map, List.getElem_range]
theorem cntS_step {l : List State} {j : Nat} (h : j < l.length) : cntSts (l.take (j + 1)) = cntSts (l.take j) + cntState (el zState l j) := by
  unfold cntSts
  rw [List.take_add_one, List.getElem?_eq_getElem h, List.map_append, List.sum_append, el_lt zState h]
  simp
theorem cntS_le (l : List State) (j : Nat) : cntSts (l.take j) ≤ cntSts l := by
  have h : l.take j ++ l.drop j = l := List.take_append_drop j l
  have h2 : cntSts l = cntSts (l.take j) + cntSts (l.drop j) := by
    conv => lhs; rw [← h]
    unfold cntSts
    rw [List.map_append, List.sum_append]
  omega
def mkBools (k : Int) (n : Nat) : List Bool := (List.range n).map (fun (i : Nat) => (k + (i : Int)) % 3 == 0)
theorem mkBools_len (k : Int) (n : Nat) : (mkBools k n).length = n := by simp [mkBools]
theorem el_mkBools (k : Int) {n j : Nat} (h : j < n) : el false (mkBools k n) j = ((k + (j : Int)) % 3 == 0) := by simp [el, mkBools, h]
set_option maxHeartbeats 8000000 in
set_option maxRecDepth 100000 in
theorem markStateS (v1 : Value) (l : List State) (k : Int) (w0 w : World) (lo : Nat) (ok : Nat → Prop) (hB : Below w0.heap.size w0 w) (hlo : w0.heap.size ≤ lo) (hr : Kd.S kStateI 31 w lo ok v1 l) (h0 : 0 ≤ k) (h1 : k + (cntSts l : Int) ≤ 4611686018427387904) (hll : l.length ≤ 1048576) :
    Calls Try.prog 33 #[v1, .int .i64 k] w fun e w' => e = .returned (.int .i64 (k + (cntSts l : Int))) ∧ Kd.S kStateI 31 w' lo ok v1 (mkSts k l) ∧ Below w0.heap.size w0 w' ∧ Kept w w' ok := by
  have HB := Aside0.mk hB
  have HO := Aside0.mk hr
  have HK := Aside0.mk (Kept.refl w ok)
  have HOK := Aside0.mk (Kd.S_R hr).1
  have hu := Try.underlying31
  obtain ⟨A, c, rfl⟩ := Kd.S_slice hr
  clear hB hr
  go_enter Try.func33, Try.ntmps33
  go_wp2
  go_loopw [1, 5] (fun u v wr => ∃ (j : Nat) (kk : Int) (xs : List State), u = .int .i64 kk ∧ v = .int .i64 j ∧ Aside0 (kk = k + (cntSts (l.take j) : Int)) ∧ j ≤ l.length ∧ xs.length = l.length ∧ Aside0 (∀ i : Nat, i < j → el zState xs i = el zState (mkSts k l) i) ∧ Aside0 (∀ i : Nat, j ≤ i → el zState xs i = el zState l i) ∧ Aside0 (Kd.S kStateI 31 wr lo ok (.slice A l.length c) xs) ∧ Aside0 (Below w0.heap.size w0 wr) ∧ Aside0 (Kept w wr ok)) (fun u v _ => l.length - (intOf v).toNat)
  case atStart => exact ⟨0, k, l, rfl, rfl, ⟨by simp [cntSts]⟩, by omega, rfl, ⟨fun i hi => by omega⟩, ⟨fun i hi => rfl⟩, HO, HB, HK⟩
  case round =>
    clear HO HB HK
    obtain ⟨j, kk, xs, rfl, rfl, HKK, hj, hn, HE, HE2, HO, HB, HK⟩ := hrel
    by_cases hlt : j < l.length
    rotate_left
    · have hb2 : ¬ (j : Int) < (l.length : Int) := by omega
      have hj2 : j = l.length := by omega
      have he : xs = mkSts k l := el_ext zState (by rw [hn, mkSts_len]) (fun i hi => HE.out i (by omega))
      subst he
      have hke := HKK.out
      rw [hj2, List.take_length] at hke
      subst hke
      go_wp2
      go_ret
      exact ⟨rfl, HO.out, HB.out, HK.out⟩
    have hb2 : (j : Int) < (l.length : Int) := by omega
    have hj0 : (0 : Int) ≤ (j : Int) := by omega
    obtain ⟨y, hy⟩ : ∃ y, y = el zState l j := ⟨_, rfl⟩
    have HCN := Aside0.mk (cntS_step hlt)
    rw [← hy] at HCN
    have HY := Aside0.mk hy; clear hy
    have hkb : 0 ≤ kk ∧ kk + 1 + y.regs.length ≤ 4611686018427387904 := by
      have h1 := HKK.out; have h2 := HCN.out; have h3 := cntS_le l (j + 1)
      unfold cntState at h2
      omega
    have hkk : 0 ≤ kk ∧ kk ≤ 4611686018427387904 := by omega
    obtain ⟨go, co, hv, gb, gl, HG0⟩ := Kd.S_form HO.out (by omega)
    rw [hn] at hv
    have hg : ok go := HOK.out go (by rw [hv]; simp [Value.ownBlock])
    injection hv with hA _ hc
    subst hA; subst hc; clear HG0
    obtain ⟨oki, c1, hcl, hM, hcc, hfr, hoki, hH⟩ := Kd.S_elem HO.out zState (j : Int) (by omega) (by omega)
    rw [Int.toNat_natCast, show xs.getD j zState = y from by rw [HY.out]; exact HE2.out j (Nat.le_refl _)] at hM
    obtain ⟨v2, rfl, r2⟩ := kStateI_openM hM
    rw [Int.toNat_natCast] at hcc hfr
    have y0 := hcc 0 _ rfl; replace y0 : wr.cell? ⟨go, j * 2, none⟩ = _ := y0; have f0 := hfr 0; replace f0 : wr.frozen? ⟨go, j * 2, none⟩ = false := f0
    have hS := Kd.H_seg hH (by omega) (by omega) (seg := [.int .i64 kk]) (j := 0) (show 1 ≤ 2 from by decide) (by intro q hq; simp at hq; subst hq; rfl)
    have hF := fun (b : Nat) (hb : oki b) => (hoki b hb).2
    have S1 : Aside0 (Kd.S kStateI 31 (wr.setCell ⟨go, j * 2, none⟩ (.int .i64 kk)) lo ok (.slice (some ⟨go, 0, none⟩) l.length c) (xs.set j ⟨kk, y.regs⟩)) :=
      ⟨Kd.H_back hS.1 (kStateI_mkM _ _ _ ⟨kk, y.regs⟩ (Kd.R_far r2 (p := ⟨go, j * 2, none⟩) hF (.int .i64 kk))) (fun _ hk => hk)⟩
    have B1 := Aside0.mk (below_set HB.out (Nat.le_trans hlo gb) (j := j * 2) (v := .int .i64 kk))
    have K1 := Aside0.mk (Kept.setCell HK.out (p := ⟨go, j * 2, none⟩) (.inl hg) (.int .i64 kk))
    have GB := Aside0.mk gb
    clear hcl hM hcc hfr hoki hH hS hF r2 gb gl hg
    go_upto_region 6 with fail
    clear y0 f0
    generalize wr.setCell ⟨go, j * 2, none⟩ (.int .i64 kk) = w1 at S1 B1 K1 ⊢
    have hx1 : (xs.set j ⟨kk, y.regs⟩).length = l.length := by simpa using hn
    obtain ⟨oki, c1, hcl, hM, hcc, hfr, hoki, hH⟩ := Kd.S_elem S1.out zState (j : Int) (by omega) (by omega)
    rw [Int.toNat_natCast, show (xs.set j (⟨kk, y.regs⟩ : State)).getD j zState = (⟨kk, y.regs⟩ : State) from el_set_eq (by omega)] at hM
    obtain ⟨v2, rfl, r2⟩ := kStateI_openM hM
    rw [Int.toNat_natCast] at hcc
    obtain ⟨B, d, hvb⟩ := Kd.R_slice r2; have yb := hcc 1 _ rfl; replace yb : w1.cell? ⟨go, j * 2 + 1, none⟩ = _ := yb
    rw [hvb] at yb
    have RB := Aside0.mk (Kd.R_bound r2)
    rw [hvb] at RB
    have HH := Aside0.mk hH; have HI := Aside0.mk hoki; have HV := Aside0.mk hvb
    clear hcl hM hcc hfr hoki hH r2 hvb
    go_wp2_with fail
    refine (markIntS _ y.regs (kk + 1) w0 _ lo _ B1.out hlo RB.out (by omega) (by omega)).mono ?_; rintro e w2 ⟨rfl, hr, hb, hk⟩
    rw [← HV.out] at hr
    have S2 := Aside0.mk (Kd.H_back (Kd.H_kept HH.out hk (fun k _ hn h2 => hn h2.1)) (kStateI_mkM _ _ _ (mkState y kk) (show (Kd.int .i64).R 3 w2 lo oki v2 (marks (kk + 1) y.regs.length) from Kd.R_mono hr (fun k hk => hk.1))) (fun _ h => h))
    rw [Int.toNat_natCast, List.set_set] at S2
    have B2 := Aside0.mk hb; have K2 := Aside0.mk (Kept.then_ K1.out hk (fun k h => .inl (HI.out k h.1).1))
    have hx2 : (xs.set j (mkState y kk)).length = l.length := by simpa using hn
    clear hr hb hk yb RB HH HI HV S1 B1 K1 hx1
    go_wp2
    go_roundw
    case measure => simp [intOf]; omega
    case rel =>
      refine ⟨j + 1, kk + 1 + (y.regs.length : Int), _, by first | rfl | go_num, by go_num, ⟨?_⟩, by omega, hx2, ⟨fun i hi => ?_⟩, ⟨fun i hi => ?_⟩, S2, B2, K2⟩
      · have h1 := HKK.out; have h2 := HCN.out; unfold cntState at h2; omega
      · rcases Nat.lt_succ_iff_lt_or_eq.1 hi with h | h
        · rw [el_set_ne (by omega)]; exact HE.out i h
        · subst h
          rw [el_mkSts k hlt, ← HKK.out, ← HY.out]
          exact el_set_eq (by omega)
      · rw [el_set_ne (by omega)]; exact HE2.out i (by omega)
set_option maxHeartbeats 8000000 in
set_option maxRecDepth 100000 in
theorem heldStateS (A : Option Addr) (c : Nat) (l0 l : List State) (k : Int) (w : World) (hr : kStateI.C w A l.length l) (hl : l = mkSts k l0) (h0 : 0 ≤ k) (h1 : k + (cntSts l0 : Int) ≤ 4611686018427387904) (hll : l.length ≤ 1048576) :
    Calls Try.prog 35 #[.slice A l.length c, .int .i64 k] w fun e w' => e = .returned (.int .i64 (k + (cntSts l0 : Int))) ∧ Below w.heap.size w w' := by
  have HR := Aside0.mk hr; clear hr
  have HNL := Aside0.mk (show l.length = l0.length by rw [hl, mkSts_len])
  have HL := Aside0.mk hl
  have hu := Try.underlying31
  clear hl
  have HB := Aside0.mk (Below.refl w.heap.size w)
  go_enter Try.func35, Try.ntmps35
  go_wp2
  go_loopw [1, 5] (fun u v wr => ∃ (j : Nat) (kk : Int), u = .int .i64 kk ∧ v = .int .i64 j ∧ Aside0 (kk = k + (cntSts (l0.take j) : Int)) ∧ j ≤ l.length ∧ Aside0 (Below w.heap.size w wr)) (fun u v _ => l.length - (intOf v).toNat)
  case atStart => exact ⟨0, k, rfl, rfl, ⟨by simp [cntSts]⟩, by omega, HB⟩
  case round =>
    clear HB
    obtain ⟨j, kk, rfl, rfl, HKK, hj, HB⟩ := hrel
    by_cases hlt : j < l.length
    rotate_left
    · have hb2 : ¬ (j : Int) < (l.length : Int) := by omega
      have hj2 : j = l0.length := by have := HNL.out; omega
      have hke := HKK.out
      rw [hj2, List.take_length] at hke
      subst hke
      go_wp2
      go_ret
      exact ⟨rfl, HB.out⟩
    have hb2 : (j : Int) < (l.length : Int) := by omega
    have hj0 : (0 : Int) ≤ (j : Int) := by omega
    have hlt0 : j < l0.length := by have := HNL.out; omega
    obtain ⟨y, hy⟩ : ∃ y, y = el zState l0 j := ⟨_, rfl⟩
    have HCN := Aside0.mk (cntS_step hlt0)
    rw [← hy] at HCN
    have hkb : 0 ≤ kk ∧ kk + 1 + y.regs.length ≤ 4611686018427387904 := by
      have h1 := HKK.out; have h2 := HCN.out; have h3 := cntS_le l0 (j + 1)
      unfold cntState at h2
      omega
    have hkk : 0 ≤ kk ∧ kk ≤ 4611686018427387904 := by omega
    obtain ⟨a, A2, c2, ha, hK, y0, y1⟩ := StateI_at HR.out j hlt
    cases ha
    have he : el zState l j = mkState y kk := by rw [HL.out, el_mkSts k hlt0, ← HKK.out, ← hy]
    rw [he] at hK y0 y1
    obtain ⟨B2, d2, hce, l2, g2⟩ := kStateI_open hK
    injection hce with _ t1; injection t1 with s2 _; injection s2 with e2 _ f2; subst e2; subst f2
    have C2 := Aside0.mk g2
    have n2 : (mkState y kk).regs.length = y.regs.length := marks_len _ _
    rw [n2] at y1
    simp only [mkState] at y0
    have HY := Aside0.mk hy
    clear g2 l2 hK he hy
    have hx0 := pw_cell_below HB.out y0; have hx1 := pw_cell_below HB.out y1
    clear y0 y1
    have hq0 : (kk != kk) = false := by simp
    go_wp2_with fail
    clear hx0 hx1
    have D := heldIntS A2 c2 y.regs.length (mkState y kk).regs (kk + 1) _ (Kd.C_below C2.out HB.out) rfl (by omega) (by rw [n2]; omega)
    rw [n2] at D
    refine D.mono ?_; clear D; rintro e w2 ⟨rfl, hb⟩
    have HB2 := Aside0.mk (below_step HB.out hb); clear hb
    have gk2 : decide (kk + 1 + (y.regs.length : Int) < 0) = false := by simp; omega
    clear n2
    go_wp2
    clear gk2 hq0
    go_roundw
    case measure => simp [intOf]; omega
    case rel => exact ⟨j + 1, kk + 1 + (y.regs.length : Int), by first | rfl | go_num, by go_num, ⟨by have h1 := HKK.out; have h2 := HCN.out; unfold cntState at h2; omega⟩, by omega, HB2⟩
set_option maxHeartbeats 8000000 in
set_option maxRecDepth 100000 in
theorem markBoolS (v1 : Value) (l : List Bool) (k : Int) (w0 w : World) (lo : Nat) (ok : Nat → Prop) (hB : Below w0.heap.size w0 w) (hlo : w0.heap.size ≤ lo) (hr : Kd.bool.R 4 w lo ok v1 l) (h0 : 0 ≤ k) (h1 : k + l.length ≤ 4611686018427387904) :
    Calls Try.prog 34 #[v1, .int .i64 k] w fun e w' => e = .returned (.int .i64 (k + l.length)) ∧ Kd.bool.R 4 w' lo ok v1 (mkBools k l.length) ∧ Below w0.heap.size w0 w' ∧ Kept w w' ok := by
  have HB := Aside0.mk hB
  have HO := Aside0.mk hr
  have HK := Aside0.mk (Kept.refl w ok)
  have HOK := Aside0.mk hr.1
  obtain ⟨A, c, rfl⟩ := Kd.R_slice hr
  clear hB hr
  go_enter Try.func34, Try.ntmps34
  go_wp2
  go_loopw [1, 5] (fun u v wr => ∃ (j : Nat) (kk : Int) (xs : List Bool), u = .int .i64 kk ∧ v = .int .i64 j ∧ Aside0 (kk = k + (j : Int)) ∧ j ≤ l.length ∧ xs.length = l.length ∧ Aside0 (∀ i : Nat, i < j → el false xs i = el false (mkBools k l.length) i) ∧ Aside0 (Kd.bool.R 4 wr lo ok (.slice A l.length c) xs) ∧ Aside0 (Below w0.heap.size w0 wr) ∧ Aside0 (Kept w wr ok)) (fun u v _ => l.length - (intOf v).toNat)
  case atStart => exact ⟨0, k, _, rfl, rfl, ⟨by simp⟩, by omega, rfl, ⟨fun i hi => by omega⟩, HO, HB, HK⟩
  case round =>
    clear HO HB HK
    obtain ⟨j, kk, xs, rfl, rfl, HKK, hj, hn, HE, HO, HB, HK⟩ := hrel
    have hkk : 0 ≤ kk ∧ kk ≤ 4611686018427387904 := by have := HKK.out; omega
    by_cases hlt : j < l.length
    · obtain ⟨go, co, hv, gb, gl, cl, HG⟩ := Kd.R_form HO.out (by omega)
      rw [hn] at hv
      have hg : ok go := HOK.out go (by rw [hv]; simp [Value.ownBlock])
      injection hv with hA _ hc
      subst hA; subst hc
      obtain ⟨hx0, hf0⟩ := Kd.R_celln false HO.out (j : Int) (by omega) (by omega)
      rw [Int.toNat_natCast] at hx0 hf0
      have HP := Aside0.mk (Kd.R_putg HO.out (j : Int) (kk % 3 == 0)).1
      have GB := Aside0.mk gb
      have GK := Aside0.mk hg
      have hb2 : (j : Int) < (l.length : Int) := by omega
      clear gb gl HG hg
      go_wp2
      go_roundw
      case measure => simp [intOf]; omega
      case rel => exact ⟨j + 1, kk + 1, _, by first | rfl | go_num, by go_num, ⟨by have := HKK.out; omega⟩, by omega, by simpa using hn, ⟨fun i hi => by rcases Nat.lt_succ_iff_lt_or_eq.1 hi with h | h; (rw [el_set_ne (by omega)]; exact HE.out i h); subst h; rw [el_mkBools k hlt, ← HKK.out]; exact el_set_eq (by omega)⟩, HP, ⟨below_set HB.out (Nat.le_trans hlo GB.out)⟩, ⟨Kept.setCell HK.out (.inl GK.out) _⟩⟩
    · have hb2 : ¬ (j : Int) < (l.length : Int) := by omega
      have hj2 : j = l.length := by omega
      have he : xs = mkBools k l.length := el_ext false (by rw [hn, mkBools_len]) (fun i hi => HE.out i (by omega))
      subst he
      have hke := HKK.out
      rw [hj2] at hke
      subst hke
      go_wp2
      go_ret
      exact ⟨rfl, HO.out, HB.out, HK.out⟩
set_option maxHeartbeats 8000000 in
set_option maxRecDepth 100000 in
theorem heldBoolS (A : Option Addr) (c n : Nat) (l : List Bool) (k : Int) (w : World) (hr : Kd.bool.C w A l.length l) (hl : l = mkBools k n) (h0 : 0 ≤ k) (h1 : k + l.length ≤ 4611686018427387904) :
    Calls Try.prog 36 #[.slice A l.length c, .int .i64 k] w fun e w' => e = .returned (.int .i64 (k + (l.length : Int))) ∧ Below w.heap.size w w' := by
  have HR := Aside0.mk hr; clear hr
  have hn : l.length = n := by rw [hl, mkBools_len]
  have HL := Aside0.mk hl
  have hll : l.length ≤ 9223372036854775807 := by omega
  clear hl
  have HB := Aside0.mk (Below.refl w.heap.size w)
  go_enter Try.func36, Try.ntmps36
  go_wp2
  go_loopw [1, 5] (fun u v wr => ∃ (j : Nat) (kk : Int), u = .int .i64 kk ∧ v = .int .i64 j ∧ Aside0 (kk = k + (j : Int)) ∧ j ≤ l.length ∧ Aside0 (Below w.heap.size w wr)) (fun u v _ => l.length - (intOf v).toNat)
  case atStart => exact ⟨0, k, rfl, rfl, ⟨by simp⟩, by omega, HB⟩
  case round =>
    clear HB
    obtain ⟨j, kk, rfl, rfl, HKK, hj, HB⟩ := hrel
    have hkk : 0 ≤ kk ∧ kk ≤ 4611686018427387904 := by have := HKK.out; omega
    by_cases hlt : j < l.length
    · obtain ⟨a, ha, y0⟩ := bool_at HR.out j hlt
      cases ha
      have he : el false l j = (kk % 3 == 0) := by rw [HL.out, el_mkBools k (by omega), ← HKK.out]
      have hb2 : (j : Int) < (l.length : Int) := by omega
      have hk3 : kk + 1 ≤ 4611686018427387904 := by have := HKK.out; omega
      have hx0 := (HB.out.cell (World.block_lt_of_cell? w _ y0)).trans y0; rw [he] at hx0
      clear y0 he
      have hq0 : ((kk % 3 == 0) != (kk % 3 == 0)) = false := by simp
      go_wp2
      go_roundw
      case measure => simp [intOf]; omega
      case rel => exact ⟨j + 1, kk + 1, by first | rfl | go_num, by go_num, ⟨by have := HKK.out; omega⟩, by omega, HB⟩
    · have hb2 : ¬ (j : Int) < (l.length : Int) := by omega
      have hj2 : j = l.length := by omega
      have hke := HKK.out
      rw [hj2] at hke
      subst hke
      go_wp2
      go_ret
      exact ⟨rfl, HB.out⟩
end Go.Proofs.Ytcbaokflimdjnaa
end
section
namespace Go.Proofs.Ytcbaokflimdjnaa
open Go.RowKit Go.Proofs.YtcbaokflimdjnaaW.PrintWords Go.Proofs.YtcbaokflimdjnaaW.PrintMore Go.Proofs.Ytcbaokflimdjnaa.Law Go.Proofs.Ytcbaokflimdjnaa.Num
set_option linter.unusedVariables false
set_option linter.unusedSimpArgs false
set_option maxHeartbeats 4000000 in
set_option maxRecDepth 100000 in
theorem eqStateS (A B : Option Addr) (c d : Nat) (l m : List State) (w : World) (hr : kStateI.C w A l.length l) (hr2 : kStateI.C w B m.length m) :
    Calls Try.prog 31 #[.slice A l.length c, .slice B m.length d] w fun e w' => e = .returned (.bool (decide (l = m))) ∧ Below w.heap.size w w' := by
  have hL : l.length ≤ 9223372036854775807 := hr.2.1
  by_cases hlen : l.length = m.length
  · have b1 : ((l.length : Int) != (m.length : Int)) = false := by simp [hlen]
    have HR := Aside0.mk hr; have HR2 := Aside0.mk hr2; have HL := Aside0.mk hlen
    clear hr hr2 hlen
    go_enter Try.func31, Try.ntmps31
    go_wp2
    go_loopw [5] (fun v wr => ∃ j : Nat, v = .int .i64 j ∧ j ≤ l.length ∧ Aside0 (∀ i : Nat, i < j → el zState l i = el zState m i) ∧ Aside0 (Below w.heap.size w wr)) (fun v _ => l.length - (intOf v).toNat)
    case atStart => exact ⟨0, rfl, by omega, ⟨fun i hi => by omega⟩, ⟨Below.refl _ _⟩⟩
    case round =>
      obtain ⟨j, rfl, hj, HE, HW⟩ := hrel
      by_cases hlt : j < l.length
      · obtain ⟨pa, pA1, pc1, rfl, pK, px0, px1⟩ := StateI_at (Kd.C_below HR.out HW.out) j hlt
        have pK2 := Aside0.mk pK; clear pK
        obtain ⟨qa, qA1, qc1, rfl, qK, qx0, qx1⟩ := StateI_at (Kd.C_below HR2.out HW.out) j (by have := HL.out; omega)
        have qK2 := Aside0.mk qK; clear qK
        have i1 : (0 : Int) ≤ (j : Int) := by omega
        have i2 : (j : Int) < (l.length : Int) := by omega
        have i3 : (j : Int) < (m.length : Int) := by have := HL.out; omega
        by_cases he : el zState l j = el zState m j
        · have b2 : decide (el zState l j = el zState m j) = true := decide_eq_true he
          have HE2 := Aside0.mk he
          clear he
          go_wp2
          have HS : Aside0 (∀ W : World, Below wr.heap.size wr W → W.cell? (pa.add (j * 2)) = some (.int .i64 (el zState l j).acc) ∧ W.cell? ⟨(pa.add (j * 2)).block, (pa.add (j * 2)).off + 1, none⟩ = some (.slice pA1 (el zState l j).regs.length pc1) ∧ W.cell? (qa.add (j * 2)) = some (.int .i64 (el zState m j).acc) ∧ W.cell? ⟨(qa.add (j * 2)).block, (qa.add (j * 2)).off + 1, none⟩ = some (.slice qA1 (el zState m j).regs.length qc1)) := ⟨fun W hB => ⟨pw_cell_below hB px0, pw_cell_below hB px1, pw_cell_below hB qx0, pw_cell_below hB qx1⟩⟩
          go_region_held3 (fun W => W.cell? (pa.add (j * 2)) = some (.int .i64 (el zState l j).acc) ∧ W.cell? ⟨(pa.add (j * 2)).block, (pa.add (j * 2)).off + 1, none⟩ = some (.slice pA1 (el zState l j).regs.length pc1) ∧ W.cell? (qa.add (j * 2)) = some (.int .i64 (el zState m j).acc) ∧ W.cell? ⟨(qa.add (j * 2)).block, (qa.add (j * 2)).off + 1, none⟩ = some (.slice qA1 (el zState m j).regs.length qc1)) (first | exact HS.out _ (below_step (below_drew1 (Below.refl _ _)) hb) | exact HS.out _ (below_drew1 (Below.refl _ _))) (first | (go_at_call 18; refine (eqState (el zState l j) (el zState m j) _ _ _ ?s1 ?s2).mono ?_; (case s1 => exact Kd.K_drew0 pK2.out); (case s2 => exact Kd.K_drew0 qK2.out); rintro e w1 ⟨rfl, hb⟩))
          go_wp2
          go_roundw
          case rel => exact ⟨j + 1, by go_num, by omega, ⟨fun i hi => by rcases Nat.lt_succ_iff_lt_or_eq.1 hi with h | h; exact HE.out i h; rw [h]; exact HE2.out⟩, ⟨below_step (below_drew1 HW.out) hb⟩⟩
          case measure => simp [intOf]; omega
        · have b2 : decide (el zState l j = el zState m j) = false := decide_eq_false he
          have HE2 := Aside0.mk he
          clear he
          go_wp2
          have HS : Aside0 (∀ W : World, Below wr.heap.size wr W → W.cell? (pa.add (j * 2)) = some (.int .i64 (el zState l j).acc) ∧ W.cell? ⟨(pa.add (j * 2)).block, (pa.add (j * 2)).off + 1, none⟩ = some (.slice pA1 (el zState l j).regs.length pc1) ∧ W.cell? (qa.add (j * 2)) = some (.int .i64 (el zState m j).acc) ∧ W.cell? ⟨(qa.add (j * 2)).block, (qa.add (j * 2)).off + 1, none⟩ = some (.slice qA1 (el zState m j).regs.length qc1)) := ⟨fun W hB => ⟨pw_cell_below hB px0, pw_cell_below hB px1, pw_cell_below hB qx0, pw_cell_below hB qx1⟩⟩
          go_region_held3 (fun W => W.cell? (pa.add (j * 2)) = some (.int .i64 (el zState l j).acc) ∧ W.cell? ⟨(pa.add (j * 2)).block, (pa.add (j * 2)).off + 1, none⟩ = some (.slice pA1 (el zState l j).regs.length pc1) ∧ W.cell? (qa.add (j * 2)) = some (.int .i64 (el zState m j).acc) ∧ W.cell? ⟨(qa.add (j * 2)).block, (qa.add (j * 2)).off + 1, none⟩ = some (.slice qA1 (el zState m j).regs.length qc1)) (first | exact HS.out _ (below_step (below_drew1 (Below.refl _ _)) hb) | exact HS.out _ (below_drew1 (Below.refl _ _))) (first | (go_at_call 18; refine (eqState (el zState l j) (el zState m j) _ _ _ ?s1 ?s2).mono ?_; (case s1 => exact Kd.K_drew0 pK2.out); (case s2 => exact Kd.K_drew0 qK2.out); rintro e w1 ⟨rfl, hb⟩))
          go_wp2
          go_ret
          exact ⟨by rw [decide_eq_false (fun h => HE2.out (by rw [h]))]; rfl, below_step (below_drew1 HW.out) hb⟩
      · go_wp2
        go_ret
        exact ⟨by rw [decide_eq_true (el_ext zState HL.out (fun i hi => HE.out i (by omega)))]; rfl, HW.out⟩
  · have b1 : ((l.length : Int) != (m.length : Int)) = true := by simp; omega
    have HL := Aside0.mk hlen
    clear hr hr2 hlen
    go_enter Try.func31, Try.ntmps31
    go_wp2
    go_ret
    exact ⟨by rw [decide_eq_false (fun h => HL.out (by rw [h]))]; rfl, Below.refl _ _⟩
set_option maxHeartbeats 4000000 in
set_option maxRecDepth 100000 in
theorem eqBoolS (A B : Option Addr) (c d : Nat) (l m : List Bool) (w : World) (hr : Kd.bool.C w A l.length l) (hr2 : Kd.bool.C w B m.length m) :
    Calls Try.prog 32 #[.slice A l.length c, .slice B m.length d] w fun e w' => e = .returned (.bool (decide (l = m))) ∧ Drawn0 w w' := by
  have hL : l.length ≤ 9223372036854775807 := hr.2.1
  by_cases hlen : l.length = m.length
  · have b1 : ((l.length : Int) != (m.length : Int)) = false := by simp [hlen]
    have HR := Aside0.mk hr; have HR2 := Aside0.mk hr2; have HL := Aside0.mk hlen
    clear hr hr2 hlen
    go_enter Try.func32, Try.ntmps32
    go_wp2
    go_loopw [5] (fun v wr => ∃ j : Nat, v = .int .i64 j ∧ j ≤ l.length ∧ Aside0 (∀ i : Nat, i < j → el false l i = el false m i) ∧ Drawn0 w wr) (fun v _ => l.length - (intOf v).toNat)
    case atStart => exact ⟨0, rfl, by omega, ⟨fun i hi => by omega⟩, Drawn0.refl _⟩
    case round =>
      obtain ⟨j, rfl, hj, HE, HW⟩ := hrel
      obtain ⟨⟨n, rfl⟩⟩ := HW
      by_cases hlt : j < l.length
      · obtain ⟨a, rfl, ha⟩ := bool_at HR.out j hlt
        obtain ⟨a2, rfl, ha2⟩ := bool_at HR2.out j (by have := HL.out; omega)
        have i1 : (0 : Int) ≤ (j : Int) := by omega
        have i2 : (j : Int) < (l.length : Int) := by omega
        have i3 : (j : Int) < (m.length : Int) := by have := HL.out; omega
        by_cases he : el false l j = el false m j
        · have b2 : (el false l j != el false m j) = false := by simpa using he
          have b3 : (!(el false l j == el false m j)) = false := by simpa using he
          have HE2 := Aside0.mk he
          clear he
          go_wp2
          go_quiet (fail)
          go_wp2
          go_roundw
          case rel => exact ⟨j + 1, by go_num, by omega, ⟨fun i hi => by rcases Nat.lt_succ_iff_lt_or_eq.1 hi with h | h; exact HE.out i h; rw [h]; exact HE2.out⟩, (by first | exact ⟨⟨_, rfl⟩⟩ | exact Drawn0.step ⟨⟨_, rfl⟩⟩ _)⟩
          case measure => simp [intOf]; omega
        · have b2 : (el false l j != el false m j) = true := by simpa using he
          have b3 : (!(el false l j == el false m j)) = true := by simpa using he
          have HE2 := Aside0.mk he
          clear he
          go_wp2
          go_quiet (fail)
          go_wp2
          go_ret
          exact ⟨by rw [decide_eq_false (fun h => HE2.out (by rw [h]))]; rfl, (by first | exact ⟨⟨_, rfl⟩⟩ | exact Drawn0.step ⟨⟨_, rfl⟩⟩ _)⟩
      · go_wp2
        go_ret
        exact ⟨by rw [decide_eq_true (el_ext false HL.out (fun i hi => HE.out i (by omega)))]; rfl, ⟨⟨_, rfl⟩⟩⟩
  · have b1 : ((l.length : Int) != (m.length : Int)) = true := by simp; omega
    have HL := Aside0.mk hlen
    clear hr hr2 hlen
    go_enter Try.func32, Try.ntmps32
    go_wp2
    go_ret
    exact ⟨by rw [decide_eq_false (fun h => HL.out (by rw [h]))]; rfl, Drawn0.refl _⟩
end Go.Proofs.Ytcbaokflimdjnaa
end
section
namespace Go.Proofs.Ytcbaokflimdjnaa
open Go.RowKit Go.Proofs.YtcbaokflimdjnaaW.PrintWords Go.Proofs.YtcbaokflimdjnaaW.PrintMore Go.Proofs.Ytcbaokflimdjnaa.Law Go.Proofs.Ytcbaokflimdjnaa.Num
set_option linter.unusedVariables false
set_option linter.unusedSimpArgs false
set_option maxHeartbeats 4000000 in
set_option maxRecDepth 100000 in
theorem eqIns (x y : Ins) (cs ds : List Value) (w : World) (hk : kIns.K w x cs) (hk2 : kIns.K w y ds) :
    Calls Try.prog 166 #[.agg ⟨cs⟩, .agg ⟨ds⟩] w fun e w' => e = .returned (.bool (decide (x = y))) ∧ Below w.heap.size w w' := by
  have ecs := kIns_open hk
  subst ecs
  have eds := kIns_open hk2
  subst eds
  clear hk hk2
  have hu := Try.underlying76
  by_cases h0 : x.op = y.op
  · skip
    have b0 : (x.op == y.op) = true := beq_iff_eq.mpr h0
    have d0 : (x.op != y.op) = false := bne_eq_false_iff_eq.mpr h0
    by_cases h1 : x.a = y.a
    · skip
      have b1 : (x.a == y.a) = true := beq_iff_eq.mpr h1
      have d1 : (x.a != y.a) = false := bne_eq_false_iff_eq.mpr h1
      by_cases h2 : x.b = y.b
      · skip
        have b2 : (x.b == y.b) = true := beq_iff_eq.mpr h2
        have d2 : (x.b != y.b) = false := bne_eq_false_iff_eq.mpr h2
        have hfin : decide (x = y) = true := decide_eq_true (by cases x; cases y; simp_all)
        have HF := Aside0.mk hfin
        clear hfin
        clear h0
        clear h1
        clear h2
        go_enter Try.func166, Try.ntmps166
        go_wp2
        go_ret
        exact ⟨by rw [HF.out]; rfl, by repeat (first | exact Below.refl _ _ | apply below_alloc | apply below_drew1 | apply pw_below_drewN | assumption)⟩
      · skip
        have b2 : (x.b == y.b) = false := beq_eq_false_iff_ne.mpr h2
        have d2 : (x.b != y.b) = true := bne_iff_ne.mpr h2
        have hfin : decide (x = y) = false := decide_eq_false (fun e => h2 (by rw [e]))
        have HF := Aside0.mk hfin
        clear hfin
        clear h0
        clear h1
        clear h2
        go_enter Try.func166, Try.ntmps166
        go_wp2
        go_ret
        exact ⟨by rw [HF.out]; rfl, by repeat (first | exact Below.refl _ _ | apply below_alloc | apply below_drew1 | apply pw_below_drewN | assumption)⟩
    · skip
      have b1 : (x.a == y.a) = false := beq_eq_false_iff_ne.mpr h1
      have d1 : (x.a != y.a) = true := bne_iff_ne.mpr h1
      have hfin : decide (x = y) = false := decide_eq_false (fun e => h1 (by rw [e]))
      have HF := Aside0.mk hfin
      clear hfin
      clear h0
      clear h1
      go_enter Try.func166, Try.ntmps166
      go_wp2
      go_ret
      exact ⟨by rw [HF.out]; rfl, by repeat (first | exact Below.refl _ _ | apply below_alloc | apply below_drew1 | apply pw_below_drewN | assumption)⟩
  · skip
    have b0 : (x.op == y.op) = false := beq_eq_false_iff_ne.mpr h0
    have d0 : (x.op != y.op) = true := bne_iff_ne.mpr h0
    have hfin : decide (x = y) = false := decide_eq_false (fun e => h0 (by rw [e]))
    have HF := Aside0.mk hfin
    clear hfin
    clear h0
    go_enter Try.func166, Try.ntmps166
    go_wp2
    go_ret
    exact ⟨by rw [HF.out]; rfl, by repeat (first | exact Below.refl _ _ | apply below_alloc | apply below_drew1 | apply pw_below_drewN | assumption)⟩
set_option maxHeartbeats 4000000 in
set_option maxRecDepth 100000 in
theorem eqInsS (A B : Option Addr) (c d : Nat) (l m : List Ins) (w : World) (hr : kIns.C w A l.length l) (hr2 : kIns.C w B m.length m) :
    Calls Try.prog 140 #[.slice A l.length c, .slice B m.length d] w fun e w' => e = .returned (.bool (decide (l = m))) ∧ Below w.heap.size w w' := by
  have hL : l.length ≤ 9223372036854775807 := hr.2.1
  by_cases hlen : l.length = m.length
  · have b1 : ((l.length : Int) != (m.length : Int)) = false := by simp [hlen]
    have HR := Aside0.mk hr; have HR2 := Aside0.mk hr2; have HL := Aside0.mk hlen
    clear hr hr2 hlen
    go_enter Try.func140, Try.ntmps140
    go_wp2
    go_loopw [5] (fun v wr => ∃ j : Nat, v = .int .i64 j ∧ j ≤ l.length ∧ Aside0 (∀ i : Nat, i < j → el zIns l i = el zIns m i) ∧ Aside0 (Below w.heap.size w wr)) (fun v _ => l.length - (intOf v).toNat)
    case atStart => exact ⟨0, rfl, by omega, ⟨fun i hi => by omega⟩, ⟨Below.refl _ _⟩⟩
    case round =>
      obtain ⟨j, rfl, hj, HE, HW⟩ := hrel
      by_cases hlt : j < l.length
      · obtain ⟨pa, rfl, pK, px0, px1, px2⟩ := Ins_at (Kd.C_below HR.out HW.out) j hlt
        have pK2 := Aside0.mk pK; clear pK
        obtain ⟨qa, rfl, qK, qx0, qx1, qx2⟩ := Ins_at (Kd.C_below HR2.out HW.out) j (by have := HL.out; omega)
        have qK2 := Aside0.mk qK; clear qK
        have i1 : (0 : Int) ≤ (j : Int) := by omega
        have i2 : (j : Int) < (l.length : Int) := by omega
        have i3 : (j : Int) < (m.length : Int) := by have := HL.out; omega
        by_cases he : el zIns l j = el zIns m j
        · have b2 : decide (el zIns l j = el zIns m j) = true := decide_eq_true he
          have HE2 := Aside0.mk he
          clear he
          go_wp2
          have HS : Aside0 (∀ W : World, Below wr.heap.size wr W → W.cell? (pa.add (j * 3)) = some (.int .i64 (el zIns l j).op) ∧ W.cell? ⟨(pa.add (j * 3)).block, (pa.add (j * 3)).off + 1, none⟩ = some (.int .i64 (el zIns l j).a) ∧ W.cell? ⟨(pa.add (j * 3)).block, (pa.add (j * 3)).off + 2, none⟩ = some (.int .i64 (el zIns l j).b) ∧ W.cell? (qa.add (j * 3)) = some (.int .i64 (el zIns m j).op) ∧ W.cell? ⟨(qa.add (j * 3)).block, (qa.add (j * 3)).off + 1, none⟩ = some (.int .i64 (el zIns m j).a) ∧ W.cell? ⟨(qa.add (j * 3)).block, (qa.add (j * 3)).off + 2, none⟩ = some (.int .i64 (el zIns m j).b)) := ⟨fun W hB => ⟨pw_cell_below hB px0, pw_cell_below hB px1, pw_cell_below hB px2, pw_cell_below hB qx0, pw_cell_below hB qx1, pw_cell_below hB qx2⟩⟩
          go_region_held3 (fun W => W.cell? (pa.add (j * 3)) = some (.int .i64 (el zIns l j).op) ∧ W.cell? ⟨(pa.add (j * 3)).block, (pa.add (j * 3)).off + 1, none⟩ = some (.int .i64 (el zIns l j).a) ∧ W.cell? ⟨(pa.add (j * 3)).block, (pa.add (j * 3)).off + 2, none⟩ = some (.int .i64 (el zIns l j).b) ∧ W.cell? (qa.add (j * 3)) = some (.int .i64 (el zIns m j).op) ∧ W.cell? ⟨(qa.add (j * 3)).block, (qa.add (j * 3)).off + 1, none⟩ = some (.int .i64 (el zIns m j).a) ∧ W.cell? ⟨(qa.add (j * 3)).block, (qa.add (j * 3)).off + 2, none⟩ = some (.int .i64 (el zIns m j).b)) (first | exact HS.out _ (below_step (below_drew1 (Below.refl _ _)) hb) | exact HS.out _ (below_drew1 (Below.refl _ _))) (first | (go_at_call 166; refine (eqIns (el zIns l j) (el zIns m j) _ _ _ ?s1 ?s2).mono ?_; (case s1 => exact Kd.K_drew0 pK2.out); (case s2 => exact Kd.K_drew0 qK2.out); rintro e w1 ⟨rfl, hb⟩))
          go_wp2
          go_roundw
          case rel => exact ⟨j + 1, by go_num, by omega, ⟨fun i hi => by rcases Nat.lt_succ_iff_lt_or_eq.1 hi with h | h; exact HE.out i h; rw [h]; exact HE2.out⟩, ⟨below_step (below_drew1 HW.out) hb⟩⟩
          case measure => simp [intOf]; omega
        · have b2 : decide (el zIns l j = el zIns m j) = false := decide_eq_false he
          have HE2 := Aside0.mk he
          clear he
          go_wp2
          have HS : Aside0 (∀ W : World, Below wr.heap.size wr W → W.cell? (pa.add (j * 3)) = some (.int .i64 (el zIns l j).op) ∧ W.cell? ⟨(pa.add (j * 3)).block, (pa.add (j * 3)).off + 1, none⟩ = some (.int .i64 (el zIns l j).a) ∧ W.cell? ⟨(pa.add (j * 3)).block, (pa.add (j * 3)).off + 2, none⟩ = some (.int .i64 (el zIns l j).b) ∧ W.cell? (qa.add (j * 3)) = some (.int .i64 (el zIns m j).op) ∧ W.cell? ⟨(qa.add (j * 3)).block, (qa.add (j * 3)).off + 1, none⟩ = some (.int .i64 (el zIns m j).a) ∧ W.cell? ⟨(qa.add (j * 3)).block, (qa.add (j * 3)).off + 2, none⟩ = some (.int .i64 (el zIns m j).b)) := ⟨fun W hB => ⟨pw_cell_below hB px0, pw_cell_below hB px1, pw_cell_below hB px2, pw_cell_below hB qx0, pw_cell_below hB qx1, pw_cell_below hB qx2⟩⟩
          go_region_held3 (fun W => W.cell? (pa.add (j * 3)) = some (.int .i64 (el zIns l j).op) ∧ W.cell? ⟨(pa.add (j * 3)).block, (pa.add (j * 3)).off + 1, none⟩ = some (.int .i64 (el zIns l j).a) ∧ W.cell? ⟨(pa.add (j * 3)).block, (pa.add (j * 3)).off + 2, none⟩ = some (.int .i64 (el zIns l j).b) ∧ W.cell? (qa.add (j * 3)) = some (.int .i64 (el zIns m j).op) ∧ W.cell? ⟨(qa.add (j * 3)).block, (qa.add (j * 3)).off + 1, none⟩ = some (.int .i64 (el zIns m j).a) ∧ W.cell? ⟨(qa.add (j * 3)).block, (qa.add (j * 3)).off + 2, none⟩ = some (.int .i64 (el zIns m j).b)) (first | exact HS.out _ (below_step (below_drew1 (Below.refl _ _)) hb) | exact HS.out _ (below_drew1 (Below.refl _ _))) (first | (go_at_call 166; refine (eqIns (el zIns l j) (el zIns m j) _ _ _ ?s1 ?s2).mono ?_; (case s1 => exact Kd.K_drew0 pK2.out); (case s2 => exact Kd.K_drew0 qK2.out); rintro e w1 ⟨rfl, hb⟩))
          go_wp2
          go_ret
          exact ⟨by rw [decide_eq_false (fun h => HE2.out (by rw [h]))]; rfl, below_step (below_drew1 HW.out) hb⟩
      · go_wp2
        go_ret
        exact ⟨by rw [decide_eq_true (el_ext zIns HL.out (fun i hi => HE.out i (by omega)))]; rfl, HW.out⟩
  · have b1 : ((l.length : Int) != (m.length : Int)) = true := by simp; omega
    have HL := Aside0.mk hlen
    clear hr hr2 hlen
    go_enter Try.func140, Try.ntmps140
    go_wp2
    go_ret
    exact ⟨by rw [decide_eq_false (fun h => HL.out (by rw [h]))]; rfl, Below.refl _ _⟩
set_option maxHeartbeats 4000000 in
set_option maxRecDepth 100000 in
theorem eqCap (x y : Cap) (cs ds : List Value) (w : World) (hk : kCap.K w x cs) (hk2 : kCap.K w y ds) :
    Calls Try.prog 165 #[.agg ⟨cs⟩, .agg ⟨ds⟩] w fun e w' => e = .returned (.bool (decide (x = y))) ∧ Below w.heap.size w w' := by
  have ecs := kCap_open hk
  subst ecs
  have eds := kCap_open hk2
  subst eds
  clear hk hk2
  have hu := Try.underlying105
  by_cases h0 : x.reg = y.reg
  · skip
    have b0 : (x.reg == y.reg) = true := beq_iff_eq.mpr h0
    have d0 : (x.reg != y.reg) = false := bne_eq_false_iff_eq.mpr h0
    by_cases h1 : x.index = y.index
    · skip
      have b1 : (x.index == y.index) = true := beq_iff_eq.mpr h1
      have d1 : (x.index != y.index) = false := bne_eq_false_iff_eq.mpr h1
      have hfin : decide (x = y) = true := decide_eq_true (by cases x; cases y; simp_all)
      have HF := Aside0.mk hfin
      clear hfin
      clear h0
      clear h1
      go_enter Try.func165, Try.ntmps165
      go_wp2
      go_ret
      exact ⟨by rw [HF.out]; rfl, by repeat (first | exact Below.refl _ _ | apply below_alloc | apply below_drew1 | apply pw_below_drewN | assumption)⟩
    · skip
      have b1 : (x.index == y.index) = false := beq_eq_false_iff_ne.mpr h1
      have d1 : (x.index != y.index) = true := bne_iff_ne.mpr h1
      have hfin : decide (x = y) = false := decide_eq_false (fun e => h1 (by rw [e]))
      have HF := Aside0.mk hfin
      clear hfin
      clear h0
      clear h1
      go_enter Try.func165, Try.ntmps165
      go_wp2
      go_ret
      exact ⟨by rw [HF.out]; rfl, by repeat (first | exact Below.refl _ _ | apply below_alloc | apply below_drew1 | apply pw_below_drewN | assumption)⟩
  · skip
    have b0 : (x.reg == y.reg) = false := beq_eq_false_iff_ne.mpr h0
    have d0 : (x.reg != y.reg) = true := bne_iff_ne.mpr h0
    have hfin : decide (x = y) = false := decide_eq_false (fun e => h0 (by rw [e]))
    have HF := Aside0.mk hfin
    clear hfin
    clear h0
    go_enter Try.func165, Try.ntmps165
    go_wp2
    go_ret
    exact ⟨by rw [HF.out]; rfl, by repeat (first | exact Below.refl _ _ | apply below_alloc | apply below_drew1 | apply pw_below_drewN | assumption)⟩
set_option maxHeartbeats 4000000 in
set_option maxRecDepth 100000 in
theorem eqCapS (A B : Option Addr) (c d : Nat) (l m : List Cap) (w : World) (hr : kCap.C w A l.length l) (hr2 : kCap.C w B m.length m) :
    Calls Try.prog 139 #[.slice A l.length c, .slice B m.length d] w fun e w' => e = .returned (.bool (decide (l = m))) ∧ Below w.heap.size w w' := by
  have hL : l.length ≤ 9223372036854775807 := hr.2.1
  by_cases hlen : l.length = m.length
  · have b1 : ((l.length : Int) != (m.length : Int)) = false := by simp [hlen]
    have HR := Aside0.mk hr; have HR2 := Aside0.mk hr2; have HL := Aside0.mk hlen
    clear hr hr2 hlen
    go_enter Try.func139, Try.ntmps139
    go_wp2
    go_loopw [5] (fun v wr => ∃ j : Nat, v = .int .i64 j ∧ j ≤ l.length ∧ Aside0 (∀ i : Nat, i < j → el zCap l i = el zCap m i) ∧ Aside0 (Below w.heap.size w wr)) (fun v _ => l.length - (intOf v).toNat)
    case atStart => exact ⟨0, rfl, by omega, ⟨fun i hi => by omega⟩, ⟨Below.refl _ _⟩⟩
    case round =>
      obtain ⟨j, rfl, hj, HE, HW⟩ := hrel
      by_cases hlt : j < l.length
      · obtain ⟨pa, rfl, pK, px0, px1⟩ := Cap_at (Kd.C_below HR.out HW.out) j hlt
        have pK2 := Aside0.mk pK; clear pK
        obtain ⟨qa, rfl, qK, qx0, qx1⟩ := Cap_at (Kd.C_below HR2.out HW.out) j (by have := HL.out; omega)
        have qK2 := Aside0.mk qK; clear qK
        have i1 : (0 : Int) ≤ (j : Int) := by omega
        have i2 : (j : Int) < (l.length : Int) := by omega
        have i3 : (j : Int) < (m.length : Int) := by have := HL.out; omega
        by_cases he : el zCap l j = el zCap m j
        · have b2 : decide (el zCap l j = el zCap m j) = true := decide_eq_true he
          have HE2 := Aside0.mk he
          clear he
          go_wp2
          have HS : Aside0 (∀ W : World, Below wr.heap.size wr W → W.cell? (pa.add (j * 2)) = some (.bool (el zCap l j).reg) ∧ W.cell? ⟨(pa.add (j * 2)).block, (pa.add (j * 2)).off + 1, none⟩ = some (.int .i64 (el zCap l j).index) ∧ W.cell? (qa.add (j * 2)) = some (.bool (el zCap m j).reg) ∧ W.cell? ⟨(qa.add (j * 2)).block, (qa.add (j * 2)).off + 1, none⟩ = some (.int .i64 (el zCap m j).index)) := ⟨fun W hB => ⟨pw_cell_below hB px0, pw_cell_below hB px1, pw_cell_below hB qx0, pw_cell_below hB qx1⟩⟩
          go_region_held3 (fun W => W.cell? (pa.add (j * 2)) = some (.bool (el zCap l j).reg) ∧ W.cell? ⟨(pa.add (j * 2)).block, (pa.add (j * 2)).off + 1, none⟩ = some (.int .i64 (el zCap l j).index) ∧ W.cell? (qa.add (j * 2)) = some (.bool (el zCap m j).reg) ∧ W.cell? ⟨(qa.add (j * 2)).block, (qa.add (j * 2)).off + 1, none⟩ = some (.int .i64 (el zCap m j).index)) (first | exact HS.out _ (below_step (below_drew1 (Below.refl _ _)) hb) | exact HS.out _ (below_drew1 (Below.refl _ _))) (first | (go_at_call 165; refine (eqCap (el zCap l j) (el zCap m j) _ _ _ ?s1 ?s2).mono ?_; (case s1 => exact Kd.K_drew0 pK2.out); (case s2 => exact Kd.K_drew0 qK2.out); rintro e w1 ⟨rfl, hb⟩))
          go_wp2
          go_roundw
          case rel => exact ⟨j + 1, by go_num, by omega, ⟨fun i hi => by rcases Nat.lt_succ_iff_lt_or_eq.1 hi with h | h; exact HE.out i h; rw [h]; exact HE2.out⟩, ⟨below_step (below_drew1 HW.out) hb⟩⟩
          case measure => simp [intOf]; omega
        · have b2 : decide (el zCap l j = el zCap m j) = false := decide_eq_false he
          have HE2 := Aside0.mk he
          clear he
          go_wp2
          have HS : Aside0 (∀ W : World, Below wr.heap.size wr W → W.cell? (pa.add (j * 2)) = some (.bool (el zCap l j).reg) ∧ W.cell? ⟨(pa.add (j * 2)).block, (pa.add (j * 2)).off + 1, none⟩ = some (.int .i64 (el zCap l j).index) ∧ W.cell? (qa.add (j * 2)) = some (.bool (el zCap m j).reg) ∧ W.cell? ⟨(qa.add (j * 2)).block, (qa.add (j * 2)).off + 1, none⟩ = some (.int .i64 (el zCap m j).index)) := ⟨fun W hB => ⟨pw_cell_below hB px0, pw_cell_below hB px1, pw_cell_below hB qx0, pw_cell_below hB qx1⟩⟩
          go_region_held3 (fun W => W.cell? (pa.add (j * 2)) = some (.bool (el zCap l j).reg) ∧ W.cell? ⟨(pa.add (j * 2)).block, (pa.add (j * 2)).off + 1, none⟩ = some (.int .i64 (el zCap l j).index) ∧ W.cell? (qa.add (j * 2)) = some (.bool (el zCap m j).reg) ∧ W.cell? ⟨(qa.add (j * 2)).block, (qa.add (j * 2)).off + 1, none⟩ = some (.int .i64 (el zCap m j).index)) (first | exact HS.out _ (below_step (below_drew1 (Below.refl _ _)) hb) | exact HS.out _ (below_drew1 (Below.refl _ _))) (first | (go_at_call 165; refine (eqCap (el zCap l j) (el zCap m j) _ _ _ ?s1 ?s2).mono ?_; (case s1 => exact Kd.K_drew0 pK2.out); (case s2 => exact Kd.K_drew0 qK2.out); rintro e w1 ⟨rfl, hb⟩))
          go_wp2
          go_ret
          exact ⟨by rw [decide_eq_false (fun h => HE2.out (by rw [h]))]; rfl, below_step (below_drew1 HW.out) hb⟩
      · go_wp2
        go_ret
        exact ⟨by rw [decide_eq_true (el_ext zCap HL.out (fun i hi => HE.out i (by omega)))]; rfl, HW.out⟩
  · have b1 : ((l.length : Int) != (m.length : Int)) = true := by simp; omega
    have HL := Aside0.mk hlen
    clear hr hr2 hlen
    go_enter Try.func139, Try.ntmps139
    go_wp2
    go_ret
    exact ⟨by rw [decide_eq_false (fun h => HL.out (by rw [h]))]; rfl, Below.refl _ _⟩
set_option maxHeartbeats 4000000 in
set_option maxRecDepth 100000 in
theorem eqHandler (x y : Handler) (cs ds : List Value) (w : World) (hk : kHandler.K w x cs) (hk2 : kHandler.K w y ds) :
    Calls Try.prog 167 #[.agg ⟨cs⟩, .agg ⟨ds⟩] w fun e w' => e = .returned (.bool (decide (x = y))) ∧ Below w.heap.size w w' := by
  have ecs := kHandler_open hk
  subst ecs
  have eds := kHandler_open hk2
  subst eds
  clear hk hk2
  have hu := Try.underlying107
  by_cases h0 : x.from_ = y.from_
  · skip
    have b0 : (x.from_ == y.from_) = true := beq_iff_eq.mpr h0
    have d0 : (x.from_ != y.from_) = false := bne_eq_false_iff_eq.mpr h0
    by_cases h1 : x.to_ = y.to_
    · skip
      have b1 : (x.to_ == y.to_) = true := beq_iff_eq.mpr h1
      have d1 : (x.to_ != y.to_) = false := bne_eq_false_iff_eq.mpr h1
      by_cases h2 : x.target = y.target
      · skip
        have b2 : (x.target == y.target) = true := beq_iff_eq.mpr h2
        have d2 : (x.target != y.target) = false := bne_eq_false_iff_eq.mpr h2
        have hfin : decide (x = y) = true := decide_eq_true (by cases x; cases y; simp_all)
        have HF := Aside0.mk hfin
        clear hfin
        clear h0
        clear h1
        clear h2
        go_enter Try.func167, Try.ntmps167
        go_wp2
        go_ret
        exact ⟨by rw [HF.out]; rfl, by repeat (first | exact Below.refl _ _ | apply below_alloc | apply below_drew1 | apply pw_below_drewN | assumption)⟩
      · skip
        have b2 : (x.target == y.target) = false := beq_eq_false_iff_ne.mpr h2
        have d2 : (x.target != y.target) = true := bne_iff_ne.mpr h2
        have hfin : decide (x = y) = false := decide_eq_false (fun e => h2 (by rw [e]))
        have HF := Aside0.mk hfin
        clear hfin
        clear h0
        clear h1
        clear h2
        go_enter Try.func167, Try.ntmps167
        go_wp2
        go_ret
        exact ⟨by rw [HF.out]; rfl, by repeat (first | exact Below.refl _ _ | apply below_alloc | apply below_drew1 | apply pw_below_drewN | assumption)⟩
    · skip
      have b1 : (x.to_ == y.to_) = false := beq_eq_false_iff_ne.mpr h1
      have d1 : (x.to_ != y.to_) = true := bne_iff_ne.mpr h1
      have hfin : decide (x = y) = false := decide_eq_false (fun e => h1 (by rw [e]))
      have HF := Aside0.mk hfin
      clear hfin
      clear h0
      clear h1
      go_enter Try.func167, Try.ntmps167
      go_wp2
      go_ret
      exact ⟨by rw [HF.out]; rfl, by repeat (first | exact Below.refl _ _ | apply below_alloc | apply below_drew1 | apply pw_below_drewN | assumption)⟩
  · skip
    have b0 : (x.from_ == y.from_) = false := beq_eq_false_iff_ne.mpr h0
    have d0 : (x.from_ != y.from_) = true := bne_iff_ne.mpr h0
    have hfin : decide (x = y) = false := decide_eq_false (fun e => h0 (by rw [e]))
    have HF := Aside0.mk hfin
    clear hfin
    clear h0
    go_enter Try.func167, Try.ntmps167
    go_wp2
    go_ret
    exact ⟨by rw [HF.out]; rfl, by repeat (first | exact Below.refl _ _ | apply below_alloc | apply below_drew1 | apply pw_below_drewN | assumption)⟩
set_option maxHeartbeats 4000000 in
set_option maxRecDepth 100000 in
theorem eqHandlerS (A B : Option Addr) (c d : Nat) (l m : List Handler) (w : World) (hr : kHandler.C w A l.length l) (hr2 : kHandler.C w B m.length m) :
    Calls Try.prog 141 #[.slice A l.length c, .slice B m.length d] w fun e w' => e = .returned (.bool (decide (l = m))) ∧ Below w.heap.size w w' := by
  have hL : l.length ≤ 9223372036854775807 := hr.2.1
  by_cases hlen : l.length = m.length
  · have b1 : ((l.length : Int) != (m.length : Int)) = false := by simp [hlen]
    have HR := Aside0.mk hr; have HR2 := Aside0.mk hr2; have HL := Aside0.mk hlen
    clear hr hr2 hlen
    go_enter Try.func141, Try.ntmps141
    go_wp2
    go_loopw [5] (fun v wr => ∃ j : Nat, v = .int .i64 j ∧ j ≤ l.length ∧ Aside0 (∀ i : Nat, i < j → el zHandler l i = el zHandler m i) ∧ Aside0 (Below w.heap.size w wr)) (fun v _ => l.length - (intOf v).toNat)
    case atStart => exact ⟨0, rfl, by omega, ⟨fun i hi => by omega⟩, ⟨Below.refl _ _⟩⟩
    case round =>
      obtain ⟨j, rfl, hj, HE, HW⟩ := hrel
      by_cases hlt : j < l.length
      · obtain ⟨pa, rfl, pK, px0, px1, px2⟩ := Handler_at (Kd.C_below HR.out HW.out) j hlt
        have pK2 := Aside0.mk pK; clear pK
        obtain ⟨qa, rfl, qK, qx0, qx1, qx2⟩ := Handler_at (Kd.C_below HR2.out HW.out) j (by have := HL.out; omega)
        have qK2 := Aside0.mk qK; clear qK
        have i1 : (0 : Int) ≤ (j : Int) := by omega
        have i2 : (j : Int) < (l.length : Int) := by omega
        have i3 : (j : Int) < (m.length : Int) := by have := HL.out; omega
        by_cases he : el zHandler l j = el zHandler m j
        · have b2 : decide (el zHandler l j = el zHandler m j) = true := decide_eq_true he
          have HE2 := Aside0.mk he
          clear he
          go_wp2
          have HS : Aside0 (∀ W : World, Below wr.heap.size wr W → W.cell? (pa.add (j * 3)) = some (.int .i64 (el zHandler l j).from_) ∧ W.cell? ⟨(pa.add (j * 3)).block, (pa.add (j * 3)).off + 1, none⟩ = some (.int .i64 (el zHandler l j).to_) ∧ W.cell? ⟨(pa.add (j * 3)).block, (pa.add (j * 3)).off + 2, none⟩ = some (.int .i64 (el zHandler l j).target) ∧ W.cell? (qa.add (j * 3)) = some (.int .i64 (el zHandler m j).from_) ∧ W.cell? ⟨(qa.add (j * 3)).block, (qa.add (j * 3)).off + 1, none⟩ = some (.int .i64 (el zHandler m j).to_) ∧ W.cell? ⟨(qa.add (j * 3)).block, (qa.add (j * 3)).off + 2, none⟩ = some (.int .i64 (el zHandler m j).target)) := ⟨fun W hB => ⟨pw_cell_below hB px0, pw_cell_below hB px1, pw_cell_below hB px2, pw_cell_below hB qx0, pw_cell_below hB qx1, pw_cell_below hB qx2⟩⟩
          go_region_held3 (fun W => W.cell? (pa.add (j * 3)) = some (.int .i64 (el zHandler l j).from_) ∧ W.cell? ⟨(pa.add (j * 3)).block, (pa.add (j * 3)).off + 1, none⟩ = some (.int .i64 (el zHandler l j).to_) ∧ W.cell? ⟨(pa.add (j * 3)).block, (pa.add (j * 3)).off + 2, none⟩ = some (.int .i64 (el zHandler l j).target) ∧ W.cell? (qa.add (j * 3)) = some (.int .i64 (el zHandler m j).from_) ∧ W.cell? ⟨(qa.add (j * 3)).block, (qa.add (j * 3)).off + 1, none⟩ = some (.int .i64 (el zHandler m j).to_) ∧ W.cell? ⟨(qa.add (j * 3)).block, (qa.add (j * 3)).off + 2, none⟩ = some (.int .i64 (el zHandler m j).target)) (first | exact HS.out _ (below_step (below_drew1 (Below.refl _ _)) hb) | exact HS.out _ (below_drew1 (Below.refl _ _))) (first | (go_at_call 167; refine (eqHandler (el zHandler l j) (el zHandler m j) _ _ _ ?s1 ?s2).mono ?_; (case s1 => exact Kd.K_drew0 pK2.out); (case s2 => exact Kd.K_drew0 qK2.out); rintro e w1 ⟨rfl, hb⟩))
          go_wp2
          go_roundw
          case rel => exact ⟨j + 1, by go_num, by omega, ⟨fun i hi => by rcases Nat.lt_succ_iff_lt_or_eq.1 hi with h | h; exact HE.out i h; rw [h]; exact HE2.out⟩, ⟨below_step (below_drew1 HW.out) hb⟩⟩
          case measure => simp [intOf]; omega
        · have b2 : decide (el zHandler l j = el zHandler m j) = false := decide_eq_false he
          have HE2 := Aside0.mk he
          clear he
          go_wp2
          have HS : Aside0 (∀ W : World, Below wr.heap.size wr W → W.cell? (pa.add (j * 3)) = some (.int .i64 (el zHandler l j).from_) ∧ W.cell? ⟨(pa.add (j * 3)).block, (pa.add (j * 3)).off + 1, none⟩ = some (.int .i64 (el zHandler l j).to_) ∧ W.cell? ⟨(pa.add (j * 3)).block, (pa.add (j * 3)).off + 2, none⟩ = some (.int .i64 (el zHandler l j).target) ∧ W.cell? (qa.add (j * 3)) = some (.int .i64 (el zHandler m j).from_) ∧ W.cell? ⟨(qa.add (j * 3)).block, (qa.add (j * 3)).off + 1, none⟩ = some (.int .i64 (el zHandler m j).to_) ∧ W.cell? ⟨(qa.add (j * 3)).block, (qa.add (j * 3)).off + 2, none⟩ = some (.int .i64 (el zHandler m j).target)) := ⟨fun W hB => ⟨pw_cell_below hB px0, pw_cell_below hB px1, pw_cell_below hB px2, pw_cell_below hB qx0, pw_cell_below hB qx1, pw_cell_below hB qx2⟩⟩
          go_region_held3 (fun W => W.cell? (pa.add (j * 3)) = some (.int .i64 (el zHandler l j).from_) ∧ W.cell? ⟨(pa.add (j * 3)).block, (pa.add (j * 3)).off + 1, none⟩ = some (.int .i64 (el zHandler l j).to_) ∧ W.cell? ⟨(pa.add (j * 3)).block, (pa.add (j * 3)).off + 2, none⟩ = some (.int .i64 (el zHandler l j).target) ∧ W.cell? (qa.add (j * 3)) = some (.int .i64 (el zHandler m j).from_) ∧ W.cell? ⟨(qa.add (j * 3)).block, (qa.add (j * 3)).off + 1, none⟩ = some (.int .i64 (el zHandler m j).to_) ∧ W.cell? ⟨(qa.add (j * 3)).block, (qa.add (j * 3)).off + 2, none⟩ = some (.int .i64 (el zHandler m j).target)) (first | exact HS.out _ (below_step (below_drew1 (Below.refl _ _)) hb) | exact HS.out _ (below_drew1 (Below.refl _ _))) (first | (go_at_call 167; refine (eqHandler (el zHandler l j) (el zHandler m j) _ _ _ ?s1 ?s2).mono ?_; (case s1 => exact Kd.K_drew0 pK2.out); (case s2 => exact Kd.K_drew0 qK2.out); rintro e w1 ⟨rfl, hb⟩))
          go_wp2
          go_ret
          exact ⟨by rw [decide_eq_false (fun h => HE2.out (by rw [h]))]; rfl, below_step (below_drew1 HW.out) hb⟩
      · go_wp2
        go_ret
        exact ⟨by rw [decide_eq_true (el_ext zHandler HL.out (fun i hi => HE.out i (by omega)))]; rfl, HW.out⟩
  · have b1 : ((l.length : Int) != (m.length : Int)) = true := by simp; omega
    have HL := Aside0.mk hlen
    clear hr hr2 hlen
    go_enter Try.func141, Try.ntmps141
    go_wp2
    go_ret
    exact ⟨by rw [decide_eq_false (fun h => HL.out (by rw [h]))]; rfl, Below.refl _ _⟩
set_option maxHeartbeats 4000000 in
set_option maxRecDepth 100000 in
theorem eqConst (x y : Const) (cs ds : List Value) (w : World) (hk : kConst.K w x cs) (hk2 : kConst.K w y ds) :
    Calls Try.prog 105 #[.agg ⟨cs⟩, .agg ⟨ds⟩] w fun e w' => e = .returned (.bool (decide (x = y))) ∧ Below w.heap.size w w' := by
  have ecs := kConst_open hk
  subst ecs
  have eds := kConst_open hk2
  subst eds
  clear hk hk2
  have hu := Try.underlying100
  by_cases h0 : x.kind = y.kind
  · skip
    have b0 : (x.kind == y.kind) = true := beq_iff_eq.mpr h0
    have d0 : (x.kind != y.kind) = false := bne_eq_false_iff_eq.mpr h0
    by_cases h1 : x.num = y.num
    · skip
      have b1 : (x.num == y.num) = true := beq_iff_eq.mpr h1
      have d1 : (x.num != y.num) = false := bne_eq_false_iff_eq.mpr h1
      by_cases h2 : x.text = y.text
      · skip
        have b2 : (x.text.toList == y.text.toList) = true := by rw [h2]; exact beq_self_eq_true _
        have d2 : (x.text.toList != y.text.toList) = false := by rw [h2]; exact bne_self_eq_false _
        have hfin : decide (x = y) = true := decide_eq_true (by cases x; cases y; simp_all)
        have HF := Aside0.mk hfin
        clear hfin
        clear h0
        clear h1
        clear h2
        go_enter Try.func105, Try.ntmps105
        go_wp2
        go_ret
        exact ⟨by rw [HF.out]; rfl, by repeat (first | exact Below.refl _ _ | apply below_alloc | apply below_drew1 | apply pw_below_drewN | assumption)⟩
      · skip
        have n2 : ¬ x.text.toList = y.text.toList := fun e => h2 (bytes_ext e)
        have b2 : (x.text.toList == y.text.toList) = false := beq_eq_false_iff_ne.mpr n2
        have d2 : (x.text.toList != y.text.toList) = true := bne_iff_ne.mpr n2
        clear n2
        have hfin : decide (x = y) = false := decide_eq_false (fun e => h2 (by rw [e]))
        have HF := Aside0.mk hfin
        clear hfin
        clear h0
        clear h1
        clear h2
        go_enter Try.func105, Try.ntmps105
        go_wp2
        go_ret
        exact ⟨by rw [HF.out]; rfl, by repeat (first | exact Below.refl _ _ | apply below_alloc | apply below_drew1 | apply pw_below_drewN | assumption)⟩
    · skip
      have b1 : (x.num == y.num) = false := beq_eq_false_iff_ne.mpr h1
      have d1 : (x.num != y.num) = true := bne_iff_ne.mpr h1
      have hfin : decide (x = y) = false := decide_eq_false (fun e => h1 (by rw [e]))
      have HF := Aside0.mk hfin
      clear hfin
      clear h0
      clear h1
      go_enter Try.func105, Try.ntmps105
      go_wp2
      go_ret
      exact ⟨by rw [HF.out]; rfl, by repeat (first | exact Below.refl _ _ | apply below_alloc | apply below_drew1 | apply pw_below_drewN | assumption)⟩
  · skip
    have b0 : (x.kind == y.kind) = false := beq_eq_false_iff_ne.mpr h0
    have d0 : (x.kind != y.kind) = true := bne_iff_ne.mpr h0
    have hfin : decide (x = y) = false := decide_eq_false (fun e => h0 (by rw [e]))
    have HF := Aside0.mk hfin
    clear hfin
    clear h0
    go_enter Try.func105, Try.ntmps105
    go_wp2
    go_ret
    exact ⟨by rw [HF.out]; rfl, by repeat (first | exact Below.refl _ _ | apply below_alloc | apply below_drew1 | apply pw_below_drewN | assumption)⟩
set_option maxHeartbeats 4000000 in
set_option maxRecDepth 100000 in
theorem eqConstS (A B : Option Addr) (c d : Nat) (l m : List Const) (w : World) (hr : kConst.C w A l.length l) (hr2 : kConst.C w B m.length m) :
    Calls Try.prog 63 #[.slice A l.length c, .slice B m.length d] w fun e w' => e = .returned (.bool (decide (l = m))) ∧ Below w.heap.size w w' := by
  have hL : l.length ≤ 9223372036854775807 := hr.2.1
  by_cases hlen : l.length = m.length
  · have b1 : ((l.length : Int) != (m.length : Int)) = false := by simp [hlen]
    have HR := Aside0.mk hr; have HR2 := Aside0.mk hr2; have HL := Aside0.mk hlen
    clear hr hr2 hlen
    go_enter Try.func63, Try.ntmps63
    go_wp2
    go_loopw [5] (fun v wr => ∃ j : Nat, v = .int .i64 j ∧ j ≤ l.length ∧ Aside0 (∀ i : Nat, i < j → el zConst l i = el zConst m i) ∧ Aside0 (Below w.heap.size w wr)) (fun v _ => l.length - (intOf v).toNat)
    case atStart => exact ⟨0, rfl, by omega, ⟨fun i hi => by omega⟩, ⟨Below.refl _ _⟩⟩
    case round =>
      obtain ⟨j, rfl, hj, HE, HW⟩ := hrel
      by_cases hlt : j < l.length
      · obtain ⟨pa, rfl, pK, px0, px1, px2⟩ := Const_at (Kd.C_below HR.out HW.out) j hlt
        have pK2 := Aside0.mk pK; clear pK
        obtain ⟨qa, rfl, qK, qx0, qx1, qx2⟩ := Const_at (Kd.C_below HR2.out HW.out) j (by have := HL.out; omega)
        have qK2 := Aside0.mk qK; clear qK
        have i1 : (0 : Int) ≤ (j : Int) := by omega
        have i2 : (j : Int) < (l.length : Int) := by omega
        have i3 : (j : Int) < (m.length : Int) := by have := HL.out; omega
        by_cases he : el zConst l j = el zConst m j
        · have b2 : decide (el zConst l j = el zConst m j) = true := decide_eq_true he
          have HE2 := Aside0.mk he
          clear he
          go_wp2
          have HS : Aside0 (∀ W : World, Below wr.heap.size wr W → W.cell? (pa.add (j * 3)) = some (.int .i64 (el zConst l j).kind) ∧ W.cell? ⟨(pa.add (j * 3)).block, (pa.add (j * 3)).off + 1, none⟩ = some (.int .u64 (el zConst l j).num) ∧ W.cell? ⟨(pa.add (j * 3)).block, (pa.add (j * 3)).off + 2, none⟩ = some (.string (el zConst l j).text) ∧ W.cell? (qa.add (j * 3)) = some (.int .i64 (el zConst m j).kind) ∧ W.cell? ⟨(qa.add (j * 3)).block, (qa.add (j * 3)).off + 1, none⟩ = some (.int .u64 (el zConst m j).num) ∧ W.cell? ⟨(qa.add (j * 3)).block, (qa.add (j * 3)).off + 2, none⟩ = some (.string (el zConst m j).text)) := ⟨fun W hB => ⟨pw_cell_below hB px0, pw_cell_below hB px1, pw_cell_below hB px2, pw_cell_below hB qx0, pw_cell_below hB qx1, pw_cell_below hB qx2⟩⟩
          go_region_held3 (fun W => W.cell? (pa.add (j * 3)) = some (.int .i64 (el zConst l j).kind) ∧ W.cell? ⟨(pa.add (j * 3)).block, (pa.add (j * 3)).off + 1, none⟩ = some (.int .u64 (el zConst l j).num) ∧ W.cell? ⟨(pa.add (j * 3)).block, (pa.add (j * 3)).off + 2, none⟩ = some (.string (el zConst l j).text) ∧ W.cell? (qa.add (j * 3)) = some (.int .i64 (el zConst m j).kind) ∧ W.cell? ⟨(qa.add (j * 3)).block, (qa.add (j * 3)).off + 1, none⟩ = some (.int .u64 (el zConst m j).num) ∧ W.cell? ⟨(qa.add (j * 3)).block, (qa.add (j * 3)).off + 2, none⟩ = some (.string (el zConst m j).text)) (first | exact HS.out _ (below_step (below_drew1 (Below.refl _ _)) hb) | exact HS.out _ (below_drew1 (Below.refl _ _))) (first | (go_at_call 105; refine (eqConst (el zConst l j) (el zConst m j) _ _ _ ?s1 ?s2).mono ?_; (case s1 => exact Kd.K_drew0 pK2.out); (case s2 => exact Kd.K_drew0 qK2.out); rintro e w1 ⟨rfl, hb⟩))
          go_wp2
          go_roundw
          case rel => exact ⟨j + 1, by go_num, by omega, ⟨fun i hi => by rcases Nat.lt_succ_iff_lt_or_eq.1 hi with h | h; exact HE.out i h; rw [h]; exact HE2.out⟩, ⟨below_step (below_drew1 HW.out) hb⟩⟩
          case measure => simp [intOf]; omega
        · have b2 : decide (el zConst l j = el zConst m j) = false := decide_eq_false he
          have HE2 := Aside0.mk he
          clear he
          go_wp2
          have HS : Aside0 (∀ W : World, Below wr.heap.size wr W → W.cell? (pa.add (j * 3)) = some (.int .i64 (el zConst l j).kind) ∧ W.cell? ⟨(pa.add (j * 3)).block, (pa.add (j * 3)).off + 1, none⟩ = some (.int .u64 (el zConst l j).num) ∧ W.cell? ⟨(pa.add (j * 3)).block, (pa.add (j * 3)).off + 2, none⟩ = some (.string (el zConst l j).text) ∧ W.cell? (qa.add (j * 3)) = some (.int .i64 (el zConst m j).kind) ∧ W.cell? ⟨(qa.add (j * 3)).block, (qa.add (j * 3)).off + 1, none⟩ = some (.int .u64 (el zConst m j).num) ∧ W.cell? ⟨(qa.add (j * 3)).block, (qa.add (j * 3)).off + 2, none⟩ = some (.string (el zConst m j).text)) := ⟨fun W hB => ⟨pw_cell_below hB px0, pw_cell_below hB px1, pw_cell_below hB px2, pw_cell_below hB qx0, pw_cell_below hB qx1, pw_cell_below hB qx2⟩⟩
          go_region_held3 (fun W => W.cell? (pa.add (j * 3)) = some (.int .i64 (el zConst l j).kind) ∧ W.cell? ⟨(pa.add (j * 3)).block, (pa.add (j * 3)).off + 1, none⟩ = some (.int .u64 (el zConst l j).num) ∧ W.cell? ⟨(pa.add (j * 3)).block, (pa.add (j * 3)).off + 2, none⟩ = some (.string (el zConst l j).text) ∧ W.cell? (qa.add (j * 3)) = some (.int .i64 (el zConst m j).kind) ∧ W.cell? ⟨(qa.add (j * 3)).block, (qa.add (j * 3)).off + 1, none⟩ = some (.int .u64 (el zConst m j).num) ∧ W.cell? ⟨(qa.add (j * 3)).block, (qa.add (j * 3)).off + 2, none⟩ = some (.string (el zConst m j).text)) (first | exact HS.out _ (below_step (below_drew1 (Below.refl _ _)) hb) | exact HS.out _ (below_drew1 (Below.refl _ _))) (first | (go_at_call 105; refine (eqConst (el zConst l j) (el zConst m j) _ _ _ ?s1 ?s2).mono ?_; (case s1 => exact Kd.K_drew0 pK2.out); (case s2 => exact Kd.K_drew0 qK2.out); rintro e w1 ⟨rfl, hb⟩))
          go_wp2
          go_ret
          exact ⟨by rw [decide_eq_false (fun h => HE2.out (by rw [h]))]; rfl, below_step (below_drew1 HW.out) hb⟩
      · go_wp2
        go_ret
        exact ⟨by rw [decide_eq_true (el_ext zConst HL.out (fun i hi => HE.out i (by omega)))]; rfl, HW.out⟩
  · have b1 : ((l.length : Int) != (m.length : Int)) = true := by simp; omega
    have HL := Aside0.mk hlen
    clear hr hr2 hlen
    go_enter Try.func63, Try.ntmps63
    go_wp2
    go_ret
    exact ⟨by rw [decide_eq_false (fun h => HL.out (by rw [h]))]; rfl, Below.refl _ _⟩
end Go.Proofs.Ytcbaokflimdjnaa
end
