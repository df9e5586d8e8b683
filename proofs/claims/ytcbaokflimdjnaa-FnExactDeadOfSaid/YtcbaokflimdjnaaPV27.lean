/- Part 27 of the proof: general lemmas, contracts of functions, walks. No condition of its own. -/
import Derived.Test.YtcbaokflimdjnaaPV26
section
namespace Go.Proofs.Ytcbaokflimdjnaa.Flow
open Go.RowKit Go.Proofs.YtcbaokflimdjnaaW.PrintWords Go.Proofs.YtcbaokflimdjnaaW.PrintLast Go.Proofs.Ytcbaokflimdjnaa.Steps Go.Proofs.YtcbaokflimdjnaaW.PrintMore Go.Proofs.Ytcbaokflimdjnaa.Law Go.Proofs.Ytcbaokflimdjnaa Go.Proofs.Ytcbaokflimdjnaa.QFnExactVerify Go.Proofs.Ytcbaokflimdjnaa.Num Go.Proofs.Ytcbaokflimdjnaa.PureJoin
set_option linter.unusedVariables false
set_option linter.unusedSimpArgs false
set_option autoImplicit false
def statesI.T3 : Bool × List (List Nat × List Nat) := (true, [([], []), ([], []), ([], []), ([2, 2], [2]), ([], []), ([4, 4], [4]), ([0, 1, 3, 5], [0, 1, 3, 5]), ([6], [6]), ([7, 0, 1, 2, 3, 4, 5, 6, 7], [7])])
def statesI.B3 : List Nat := [0, 0, 0, 4, 0, 16, 63, 127, 255]
theorem statesI.tab3 : rtab .any (opsOf Try.f67 3) = statesI.T3 := by kernel_rfl
theorem statesI.bits3 : waitsOk statesI.T3.2 statesI.B3 = true := by kernel_rfl
def statesI.T17 : Bool × List (List Nat × List Nat) := (true, [([], []), ([0], [0]), ([1], [1]), ([2], [2]), ([], []), ([4], [4]), ([5], [5]), ([6], [6]), ([3, 0, 1, 2, 3], [3]), ([7, 8, 0, 1, 2, 3, 4, 5, 6, 7, 8], [7]), ([9, 0, 1, 2, 3, 4, 5, 6, 7, 8, 9], [])])
def statesI.B17 : List Nat := [0, 1, 3, 7, 0, 16, 48, 112, 15, 511, 1023]
theorem statesI.tab17 : rtab .any (opsOf Try.f67 17) = statesI.T17 := by kernel_rfl
theorem statesI.bits17 : waitsOk statesI.T17.2 statesI.B17 = true := by kernel_rfl
set_option maxHeartbeats 8000000 in
set_option maxRecDepth 100000 in
theorem cStates (x : Image) (j : Nat) (ok : FnOk x (el zFunc x.funcs j)) (hj : j < x.funcs.length) (gx : Nat) (fa : Addr) (c0 : Nat) (A1 : Option Addr) (c1 : Nat) (w : World) (hx0 : w.cell? ⟨gx, 0, none⟩ = some (.slice (some fa) x.funcs.length c0)) (hx1 : w.cell? ⟨gx, 1, none⟩ = some (.slice A1 x.consts.length c1)) (g0 : kFuncI.C w (some fa) x.funcs.length x.funcs) :
    Calls Try.prog 67 #[.pointer (some ⟨gx, 0, none⟩), .int .i64 j] w fun e w' => ∃ v1 v2, e = .returned (.tuple #[v1, v2, .bool (!(final x (el zFunc x.funcs j)).bad)]) ∧ ((final x (el zFunc x.funcs j)).bad = true → v1 = .slice none 0 0 ∧ v2 = .slice none 0 0) ∧ ((final x (el zFunc x.funcs j)).bad = false → kStateI.R 31 w' w.heap.size (fun _ => True) v1 (final x (el zFunc x.funcs j)).list ∧ Kd.bool.R 4 w' w.heap.size (fun _ => True) v2 (final x (el zFunc x.funcs j)).reached) ∧ Below w.heap.size w w' := by
  have hu := Try.underlying31; have hu1 := Try.underlying48; have hu2 := Try.underlying73; have hu3 := Try.underlying26; have hu4 := Try.underlying49; have hu5 := Try.underlying34; have hu6 := Try.underlying37; have hu7 := Try.underlying149; have hu8 := Try.underlying70
  obtain ⟨fa0, A2, c2, A3, c3, A4, c4, hfa, x0, x1, x2, x3, x4, hcap, hcode, hhan⟩ := func_at5 g0 j hj
  cases hfa
  have HGO := Aside0.mk (fun (g lo : Nat) (W : World) (r : Fl) (vl vr vt : Value) (hr : Run 149 #[.pointer (some ⟨gx, 0, none⟩), .pointer (some (fa.add (j * 5))), vl, vr, vt, .bool r.bad] 0 g lo w W r vl vr vt) (hI : Inv (el zFunc x.funcs j).code.length (el zFunc x.funcs j).regs.toNat r) (p : Nat) (hp : p < (el zFunc x.funcs j).code.length) (hpr : el false r.reached p = true) => cGo1 x j ok hj gx fa c0 A1 c1 g lo w W hx0 hx1 g0 r vl vr vt hr hI p hp hpr)
  have hj0 : (0 : Int) ≤ (j : Int) := by omega
  have hj1 : (j : Int) < (x.funcs.length : Int) := by omega
  obtain ⟨f, hfe⟩ : ∃ f, f = el zFunc x.funcs j := ⟨_, rfl⟩
  rw [← hfe] at x0 x1 x3 HGO ok ⊢
  have F0 := Aside0.mk x0; have F1 := Aside0.mk x1; have F3 := Aside0.mk x3
  have hkl := ok.kl; have hhl := ok.hl; have hrg := ok.rg; have hpm := ok.pr
  clear hfe g0 hx1 hcap hcode hhan x0 x1 x2 x4 ok hj
  obtain ⟨n, hn⟩ : ∃ n : Nat, n = f.code.length := ⟨_, rfl⟩
  have HN := Aside0.mk hn
  rw [← hn] at x3 hkl
  clear hn
  go_enter Try.func67, Try.ntmps67
  go_upto_region 3 with fail
  clear x3 hx0
  go_cut [9] (fun u wx => ∃ (g : Nat) (vl vr : Value) (W3 : World), u = .pointer (some ⟨g, 0, none⟩) ∧ Aside0 (W3 = wx) ∧ Aside0 (Run 149 #[.pointer (some ⟨gx, 0, none⟩), .pointer (some (fa.add (j * 5))), vl, vr, .slice none 0 0, .bool false] 0 g w.heap.size w W3 (blank f) vl vr (.slice none 0 0)))
  case first =>
    refine sz 9 (fun _ => True) [] statesI.tab3 statesI.bits3 trivial (fun HT_ HW_ hHeld => ?_)
    have CD := Aside0.mk (below_drew1 (Below.refl w.heap.size w))
    refine pz 0 24 ?_; refine pz 1 25 ?_; refine pz 2 26 ?_; refine pz 4 28 ?_
    refine twz 3 5 (some 27) (some 29) (fun K hK => ?_) (fun K hK => ?_)
    · skip
      refine Kd.R_make_step kStateI (w0 := _) _ 31 (by rfl) (N := 27) rfl 48 (.tmp 26) (.tmp 26) rfl (n : Int) (by rfl) (by rfl) Try.underlying48 (.agg #[.int .i64 0, .slice none 0 0]) 32 (by kernel_rfl) rfl (by decide) (by omega) zState (ok := fun _ => True) (okp := fun _ => True) (kStateI_mkM _ _ _ zState (Kd.R_nil _ _ _ _ _)) (fun _ hk => hk) trivial (by omega) (by omega) (Below.refl _ _) (Nat.le_refl _) ?_
      intro vL m0 ho hb hg_ hnew_; clear hg_ hnew_
      rw [Int.toNat_natCast] at ho
      obtain ⟨AL, yL, hv⟩ := Kd.R_slice ho; rw [List.length_replicate] at hv; subst hv
      have HL := Aside0.mk (Kd.R_lower ho (CD.out).size)
      have C0 := Aside0.mk (below_step CD.out hb)
      clear ho hb
      refine hK.out _ _ trivial (fun hHeld => ?_); clear hK K; refine kz (some 27) ?_
      refine ez 5 (some 29) (fun K hK => ?_)
      refine Kd.R_make_step Kd.bool (w0 := m0) _ 4 (by rfl) (N := 29) rfl 49 (.tmp 28) (.tmp 28) rfl (n : Int) (by rfl) (by rfl) Try.underlying49 (.bool false) 1 (by kernel_rfl) rfl (by decide) (by omega) false (ok := fun _ => True) (okp := fun _ => True) rfl (fun _ hk => hk) trivial (by omega) (by omega) (Below.refl _ _) (Nat.le_refl _) ?_
      intro vB m1 ho hb hg_ hnew_; clear hg_ hnew_
      rw [Int.toNat_natCast] at ho
      obtain ⟨AB, yB, hv⟩ := Kd.R_slice ho; rw [List.length_replicate] at hv; subst hv
      have HB := Aside0.mk (Kd.R_lower ho (C0.out).size)
      have C1 := Aside0.mk (below_step C0.out hb)
      have HL := Aside0.mk (Kd.R_below HL.out hb)
      clear ho hb
      refine hK.out _ _ trivial (fun hHeld => ?_); clear hK K; refine kz (some 29) ?_
      refine pz 6 30 ?_
      refine ez 7 (some 31) (fun K hK => ?_)
      refine box_step ?hg (N := 31) ?hd (cs := #[.pointer (some ⟨gx, 0, none⟩), .pointer (some (fa.add (j * 5))), (.slice AL n yL), (.slice AB n yB), .slice none 0 0, .bool false]) (t := 149) ?hr ?_; (case hd => rfl); (case hg => rfl); (case hr => first | (go_simp; done) | (go_simp; rfl))
      intro g hg m9 hbx hbb
      have C9 := Aside0.mk (below_step C1.out hbb)
      have RL := Kd.R_below (Kd.R_bound HL.out) hbb; have RB := Kd.R_below (Kd.R_bound HB.out) hbb
      have RR := Aside0.mk (show Run 149 #[.pointer (some ⟨gx, 0, none⟩), .pointer (some (fa.add (j * 5))), (.slice AL n yL), (.slice AB n yB), .slice none 0 0, .bool false] 0 g w.heap.size w m9 (blank f) (.slice AL n yL) (.slice AB n yB) (.slice none 0 0) from ⟨C9.out, Nat.le_refl _, by rw [hg]; exact C1.out.size, hbx, Kd.R_mono (show kStateI.R _ m9 _ _ (.slice AL n yL) (blank f).list by unfold blank; rw [← HN.out]; exact RL) (fun k hk => ⟨by have := hk.2.2.1; omega, by simp [Value.ownBlock]⟩), Kd.R_mono (show Kd.bool.R _ m9 _ _ (.slice AB n yB) (blank f).reached by unfold blank; rw [← HN.out]; exact RB) (fun k hk => by have := hk.2.2.1; omega), Kd.Q_nil _ _ _ _ _⟩)
      clear hg hbx hbb RL RB
      refine hK.out _ _ trivial (fun hHeld => ?_); clear hK K; refine kz (some 31) ?_
      refine pz 8 9 ?_
      refine dz ?_
      try go_wp2_with fail
      go_meet
      exact ⟨_, _, _, _, rfl, ⟨rfl⟩, RR⟩
    · skip
      refine Kd.R_make_step Kd.bool (w0 := _) _ 4 (by rfl) (N := 29) rfl 49 (.tmp 28) (.tmp 28) rfl (n : Int) (by rfl) (by rfl) Try.underlying49 (.bool false) 1 (by kernel_rfl) rfl (by decide) (by omega) false (ok := fun _ => True) (okp := fun _ => True) rfl (fun _ hk => hk) trivial (by omega) (by omega) (Below.refl _ _) (Nat.le_refl _) ?_
      intro vB m0 ho hb hg_ hnew_; clear hg_ hnew_
      rw [Int.toNat_natCast] at ho
      obtain ⟨AB, yB, hv⟩ := Kd.R_slice ho; rw [List.length_replicate] at hv; subst hv
      have HB := Aside0.mk (Kd.R_lower ho (CD.out).size)
      have C0 := Aside0.mk (below_step CD.out hb)
      clear ho hb
      refine hK.out _ _ trivial (fun hHeld => ?_); clear hK K; refine kz (some 29) ?_
      refine ez 3 (some 27) (fun K hK => ?_)
      refine Kd.R_make_step kStateI (w0 := m0) _ 31 (by rfl) (N := 27) rfl 48 (.tmp 26) (.tmp 26) rfl (n : Int) (by rfl) (by rfl) Try.underlying48 (.agg #[.int .i64 0, .slice none 0 0]) 32 (by kernel_rfl) rfl (by decide) (by omega) zState (ok := fun _ => True) (okp := fun _ => True) (kStateI_mkM _ _ _ zState (Kd.R_nil _ _ _ _ _)) (fun _ hk => hk) trivial (by omega) (by omega) (Below.refl _ _) (Nat.le_refl _) ?_
      intro vL m1 ho hb hg_ hnew_; clear hg_ hnew_
      rw [Int.toNat_natCast] at ho
      obtain ⟨AL, yL, hv⟩ := Kd.R_slice ho; rw [List.length_replicate] at hv; subst hv
      have HL := Aside0.mk (Kd.R_lower ho (C0.out).size)
      have C1 := Aside0.mk (below_step C0.out hb)
      have HB := Aside0.mk (Kd.R_below HB.out hb)
      clear ho hb
      refine hK.out _ _ trivial (fun hHeld => ?_); clear hK K; refine kz (some 27) ?_
      refine pz 6 30 ?_
      refine ez 7 (some 31) (fun K hK => ?_)
      refine box_step ?hg (N := 31) ?hd (cs := #[.pointer (some ⟨gx, 0, none⟩), .pointer (some (fa.add (j * 5))), (.slice AL n yL), (.slice AB n yB), .slice none 0 0, .bool false]) (t := 149) ?hr ?_; (case hd => rfl); (case hg => rfl); (case hr => first | (go_simp; done) | (go_simp; rfl))
      intro g hg m9 hbx hbb
      have C9 := Aside0.mk (below_step C1.out hbb)
      have RL := Kd.R_below (Kd.R_bound HL.out) hbb; have RB := Kd.R_below (Kd.R_bound HB.out) hbb
      have RR := Aside0.mk (show Run 149 #[.pointer (some ⟨gx, 0, none⟩), .pointer (some (fa.add (j * 5))), (.slice AL n yL), (.slice AB n yB), .slice none 0 0, .bool false] 0 g w.heap.size w m9 (blank f) (.slice AL n yL) (.slice AB n yB) (.slice none 0 0) from ⟨C9.out, Nat.le_refl _, by rw [hg]; exact C1.out.size, hbx, Kd.R_mono (show kStateI.R _ m9 _ _ (.slice AL n yL) (blank f).list by unfold blank; rw [← HN.out]; exact RL) (fun k hk => ⟨by have := hk.2.2.1; omega, by simp [Value.ownBlock]⟩), Kd.R_mono (show Kd.bool.R _ m9 _ _ (.slice AB n yB) (blank f).reached by unfold blank; rw [← HN.out]; exact RB) (fun k hk => by have := hk.2.2.1; omega), Kd.Q_nil _ _ _ _ _⟩)
      clear hg hbx hbb RL RB
      refine hK.out _ _ trivial (fun hHeld => ?_); clear hK K; refine kz (some 31) ?_
      refine pz 8 9 ?_
      refine dz ?_
      try go_wp2_with fail
      go_meet
      exact ⟨_, _, _, _, rfl, ⟨rfl⟩, RR⟩
  case rest =>
  obtain ⟨g, vl, vr, W3, rfl, HW3, R3⟩ := hcut
  have hw3 := HW3.out; subst hw3; clear HW3
  obtain ⟨R, hR⟩ : ∃ R : Nat, f.regs = R := ⟨f.regs.toNat, by omega⟩
  obtain ⟨pm, hpme⟩ : ∃ pm : Nat, f.params = pm := ⟨f.params.toNat, by omega⟩
  have M3 := Aside0.mk (Mem.start W3)
  have y1 := pw_cell_below R3.out.below F1.out
  rw [hR] at y1
  have HRE := Aside0.mk hR; have HPM := Aside0.mk hpme
  have hR40 : R ≤ 40 := by omega
  have hpR : pm ≤ R := by omega
  clear hR hpme
  go_wp2_with (refine Kd.R_make (Kd.int .i64) _ 3 rfl (N := _) rfl _ _ _ rfl (R : Int) rfl rfl Try.underlying26 (.int .i64 0) 8 (by kernel_rfl) rfl (by decide) (by omega) (0 : Int) (ok := fun _ => True) (okp := fun _ => True) rfl (fun _ hk => hk) trivial (by omega) (by omega) (Below.refl _ _) (Nat.le_refl _) ?_; intro v4 w4 ho hb hg_ hnew_; clear hg_ hnew_; have HO4 := Aside0.mk ho; have HB4 := Aside0.mk hb; clear ho hb; refine Aside0.out ?_)
  refine ⟨?_⟩
  have ho4 := HO4.out
  rw [Int.toNat_natCast] at ho4
  obtain ⟨A4b, y4, hv4⟩ := Kd.R_slice ho4
  rw [List.length_replicate] at hv4; subst hv4
  have M4 := Aside0.mk (M3.out.pushR HB4.out ho4); clear M3 ho4 y1
  obtain ⟨g10, hg10⟩ : ∃ g10 : Nat, g10 = w4.heap.size := ⟨_, rfl⟩
  have M5 := Aside0.mk (M4.out.allocAt hg10 #[.int .i64 0, .slice A4b R y4] 31); clear M4
  have y0 := pw_cell_below (R3.out.step M5.out.below).below F0.out
  rw [HPM.out] at y0
  go_upto_region 6 with fail
  rw [← hg10]
  have HG10 := Aside0.mk hg10; clear hg10 y0
  generalize w4.alloc (.cells #[.int .i64 0, .slice A4b R y4] 31) = w5 at M5 ⊢
  have HE0 := Aside0.mk (show List.replicate R (0 : Int) = filled R 0 from by unfold filled; simp)
  rw [HE0.out] at M5
  clear HO4 HB4
  generalize hlo4 : W3.heap.size = lo4 at M5
  generalize w4.heap.size = hi4 at M5
  go_loopw [42] (fun v wx => ∃ q : Nat, v = .int .i64 q ∧ q ≤ pm ∧ Aside0 (Mem W3 wx [Hold.box g10 #[.int .i64 0, .slice A4b R y4] 31, Hold.val (Kd.slice 3 (Kd.int .i64)) lo4 hi4 (filled R q) [.slice A4b R y4]])) (fun v _ => pm - (intOf v).toNat)
  case atStart => exact ⟨0, rfl, by omega, M5⟩
  case round =>
  clear M5
  obtain ⟨q, rfl, hq, M6⟩ := hrel
  by_cases hlt : q < pm
  · have hle : (q : Int) < (pm : Int) := by omega
    have hr6 := M6.out.row (.tail _ (.head _))
    have hfl := filled_len (R := R) (q := q) (by omega)
    obtain ⟨gq, cq, hgq, hgb, hgl, _⟩ := Kd.R_form hr6 (by omega)
    rw [hfl] at hgq
    injection hgq with e1 e2 e3; subst e1; subst e3; clear e2
    obtain ⟨k0, k1⟩ := Kd.R_celln 0 hr6 (q : Int) (by omega) (by omega)
    rw [Int.toNat_natCast] at k0 k1
    obtain ⟨hp1, hp2⟩ := Kd.R_putg hr6 (q : Int) 1
    rw [Int.toNat_natCast, filled_set (by omega : q < R)] at hp1
    have hok := hr6.1 gq (by simp [Value.ownBlock])
    have hlow : W3.heap.size ≤ gq := by rw [hlo4]; exact hok.1
    have M7 := Aside0.mk (Mem.mark (A := [_]) (y := filled R (q + 1)) M6.out (below_set M6.out.below hlow) (Kept.setCell (Kept.refl _ _) (p := ⟨gq, q, none⟩) (.inl hok) (.int .i64 1)) ⟨_, rfl, hp1⟩)
    have z0 := M6.out.box (.head _)
    have hq0 : (0 : Int) ≤ (q : Int) := by omega
    have hq1 : (q : Int) < (R : Int) := by omega
    clear hr6 hp1 hp2 hok hlow hgb hgl
    clear M6
    go_wp2
    go_roundw
    case measure => simp [intOf]; omega
    case rel => exact ⟨q + 1, by go_num, by omega, M7⟩
  have hle : ¬ (q : Int) < (pm : Int) := by omega
  obtain rfl : pm = q := by omega
  have z0 := M6.out.box (.head _)
  go_wp2_with fail
  clear z0
  have hbg : begin f = ⟨0, filled R pm⟩ := by rw [begin_filled, HRE.out, HPM.out]; rfl
  have HBG := Aside0.mk hbg; clear hbg
  have HIB := Aside0.mk (blank_inv f)
  have R6 := Aside0.mk (R3.out.step M6.out.below)
  have HLW := Aside0.mk (Nat.le_trans R3.out.below.size M6.out.below.size)
  have S6 := Aside0.mk (show SOk g w.heap.size wr (.slice none 0 0) (begin f) [.int .i64 0, .slice A4b R y4] from by
    rw [HBG.out]
    refine kStateI_mkM _ _ _ ⟨0, filled R pm⟩ (Kd.R_lower (Kd.R_mono (M6.out.row (.tail _ (.head _))) (fun k hk => ⟨fun e => ?_, by simp [Value.ownBlock]⟩)) (by rw [← hlo4]; exact R3.out.below.size))
    have h1 := R3.out.lt.1
    have h2 := hk.1
    omega)
  refine (cCome 0 g w.heap.size w _ (blank f) (.pointer (some ⟨gx, 0, none⟩)) (.pointer (some (fa.add (j * 5)))) vl vr (.slice none 0 0) 0 (begin f) [.int .i64 0, .slice A4b R y4] R6.out S6.out (Nat.zero_le _) (by unfold blank; simp) (by rw [HIB.out.lr, HIB.out.ll]) (by rw [HIB.out.ll]; have := HN.out; omega) (by rw [HBG.out, filled_len hpR]; omega) (fun z hz hzr => by rw [HIB.out.rs z (by rw [HIB.out.ll] at hz; exact hz) hzr]; have := HRE.out; omega) (by omega) HLW.out).mono ?_
  rintro e w7 ⟨vt7, rfl, hR7, _, _⟩
  have R7 := Aside0.mk (show Run 149 #[.pointer (some ⟨gx, 0, none⟩), .pointer (some (fa.add (j * 5))), vl, vr, vt7, .bool (start f).bad] 0 g w.heap.size w w7 (start f) vl vr vt7 from hR7)
  clear hR7 M6 R6 S6 HLW R3
  have HI0 := Aside0.mk (start_inv (f := f) (by have := HRE.out; have := HPM.out; omega) (by have := HPM.out; omega))
  have HFIN := Aside0.mk (fun (j : Nat) (hd : done (it x f (start f) j)) => final_of (x := x) (f := f) (by have := HRE.out; have := HPM.out; omega) (by have := HPM.out; omega) hd)
  have HK0 := Aside0.mk (show (start f).k = 0 from (come_inv (p := 0) (blank_inv f) (begin_len (f := f) (by have := HRE.out; have := HPM.out; omega) (by have := HPM.out; omega))).2.kk)
  go_upto_region 12 with fail
  go_loopg [12] (meas f.regs.toNat (start f)) (fun kq v wx => ∃ (m : Nat) (vt' : Value), v = .int .i64 (it x f (start f) m).k ∧ kq = meas f.regs.toNat (it x f (start f) m) ∧ Aside0 (Run 149 #[.pointer (some ⟨gx, 0, none⟩), .pointer (some (fa.add (j * 5))), vl, vr, vt', .bool (it x f (start f) m).bad] 0 g w.heap.size w wx (it x f (start f) m) vl vr vt'))
  case atStart => exact ⟨0, vt7, by show _ = Value.int .i64 ((start f).k : Int); rw [HK0.out]; rfl, rfl, R7⟩
  case round =>
  clear R7
  obtain ⟨m, vt2, rfl, hgk, R8⟩ := hrel
  have HI8 := Aside0.mk (it_inv (x := x) (f := f) HI0.out m)
  have HSS := Aside0.mk (fun (h : ¬ done (it x f (start f) m)) => it_succ (x := x) (f := f) (r := start f) (n := m) h)
  have HFM := Aside0.mk (HFIN.out m)
  obtain ⟨rr, hrr⟩ : ∃ rr, rr = it x f (start f) m := ⟨_, rfl⟩
  rw [← hrr] at R8 HI8 HSS HFM hgk
  rw [← hrr]
  have HGK := Aside0.mk hgk; have HRR := Aside0.mk hrr; clear hgk hrr
  obtain ⟨AT, yT, hvt, hyT⟩ := Kd.Q_slice R8.out.Q
  rw [List.drop_zero] at hvt; subst hvt
  have q4 := (blk_cell R8.out.box 4).trans rfl
  have q5 := (blk_cell R8.out.box 5).trans rfl
  have hql := inv_q HI8.out (by have := HN.out; omega) (by have := HRE.out; omega)
  have fin : ∀ (hd : done rr), final x f = rr := fun hd => (HFM.out hd).symm
  have FIN := Aside0.mk fin; clear fin hyT
  rcases Bool.eq_false_or_eq_true rr.bad with hbd | hbd
  · have HF := Aside0.mk (FIN.out (.inl hbd))
    have HBD := Aside0.mk hbd
    rw [hbd] at q5
    clear hbd
    by_cases hk : rr.k < rr.queue.length
    · have hk2 : (rr.k : Int) < (rr.queue.length : Int) := by omega
      go_wp2
      go_ret3
      exact ⟨.slice none 0 0, .slice none 0 0, congrArg Ending.returned (by rw [HF.out, HBD.out]; rfl), fun _ => ⟨rfl, rfl⟩, (fun h => by rw [HF.out, HBD.out] at h; cases h), R8.out.below⟩
    · have hk2 : ¬ (rr.k : Int) < (rr.queue.length : Int) := by omega
      go_wp2
      go_ret3
      exact ⟨.slice none 0 0, .slice none 0 0, congrArg Ending.returned (by rw [HF.out, HBD.out]; rfl), fun _ => ⟨rfl, rfl⟩, (fun h => by rw [HF.out, HBD.out] at h; cases h), R8.out.below⟩
  · have HBD := Aside0.mk hbd
    rw [hbd] at q5
    clear hbd
    by_cases hk : rr.k < rr.queue.length
    · have hk2 : (rr.k : Int) < (rr.queue.length : Int) := by omega
      have hk0 : (0 : Int) ≤ (rr.k : Int) := by omega
      have hC := (Kd.Q_reads' (by have h := R8.out.Q; rw [show rr.queue.length = (rr.queue.drop 0).length from rfl] at h; exact h)).2.2
      rw [List.drop_zero] at hC
      obtain ⟨qa, rfl, hqc⟩ := int_at hC rr.k hk
      obtain ⟨h1, h2, h3⟩ := HI8.out.qs _ (el_mem 0 hk)
      obtain ⟨pp, hpp⟩ : ∃ pp : Nat, el 0 rr.queue rr.k = pp := ⟨(el 0 rr.queue rr.k).toNat, by omega⟩
      rw [hpp] at hqc h2 h3
      rw [Int.toNat_natCast] at h2 h3
      have HST := Aside0.mk (show it x f (start f) (m + 1) = stepP x f { rr with k := rr.k + 1 } pp from by
        rw [HSS.out (fun hd => by rcases hd with hd | hd; (rw [HBD.out] at hd; cases hd); omega), step_eq, hpp, Int.toNat_natCast])
      have HSK := Aside0.mk (show (stepP x f { rr with k := rr.k + 1 } pp).k = rr.k + 1 from by
        have h := (step_inv (x := x) (f := f) HI8.out hk).2.kk
        rw [step_eq, hpp, Int.toNat_natCast] at h
        exact h)
      have HSM := Aside0.mk (show meas f.regs.toNat (stepP x f { rr with k := rr.k + 1 } pp) < meas f.regs.toNat rr from by
        have h := step_meas (x := x) (f := f) HI8.out hk
        rw [step_eq, hpp, Int.toNat_natCast] at h
        exact h)
      have H2 := Aside0.mk h2; have H3 := Aside0.mk h3; have HPOP := Aside0.mk (HI8.out.pop hk)
      clear hC h1 h2 h3 hpp
      go_wp2_with fail
      refine (HGO.out g w.heap.size _ { rr with k := rr.k + 1 } vl vr (.slice (some qa) rr.queue.length yT) (R8.out.as rfl rfl rfl) HPOP.out pp H2.out H3.out).mono ?_
      rintro e w9 ⟨vt9, rfl, hR9⟩
      have R9 := Aside0.mk hR9; clear hR9 hqc q4 q5
      go_wp2
      go_roundg (meas f.regs.toNat (stepP x f { rr with k := rr.k + 1 } pp))
      case measure => have h1 := HSM.out; have h2 := HGK.out; omega
      case rel => exact ⟨m + 1, vt9, by rw [HST.out, HSK.out]; go_num, by rw [HST.out], by rw [HST.out]; exact R9⟩
    · have hk2 : ¬ (rr.k : Int) < (rr.queue.length : Int) := by omega
      have HF := Aside0.mk (FIN.out (.inr (by omega)))
      go_upto_region 17 with fail
      clear q4 q5
      refine sz 11 (fun W => W.cell? ⟨g, 2, none⟩ = some vl ∧ W.cell? ⟨g, 3, none⟩ = some vr) [] statesI.tab17 statesI.bits17 ⟨(blk_cell (show (World.drew _).heap[g]? = _ from R8.out.box) 2).trans rfl, (blk_cell (show (World.drew _).heap[g]? = _ from R8.out.box) 3).trans rfl⟩ (fun HT_ HW_ hHeld => ?_)
      refine pz 0 82 ?_; refine pz 1 83 ?_; refine pz 2 84 ?_; refine pz 4 86 ?_; refine pz 5 87 ?_; refine pz 6 88 ?_; refine tz 3 85 ?_; refine pz 8 4 ?_; refine tz 7 89 ?_; refine pz 9 5 ?_; refine pz 10 6 ?_
      refine dz ?_
      go_wp2
      go_ret3
      exact ⟨vl, vr, congrArg Ending.returned (by rw [HF.out, HBD.out]; rfl), (fun h => by rw [HF.out, HBD.out] at h; cases h), fun _ => by rw [HF.out]; exact ⟨Kd.R_mono (Kd.R_drew R8.out.L) (fun _ _ => trivial), Kd.R_mono (Kd.R_drew R8.out.B) (fun _ _ => trivial)⟩, below_drew1 R8.out.below⟩
end Go.Proofs.Ytcbaokflimdjnaa.Flow
end
