/- Part 21 of the proof: general lemmas, contracts of functions, walks. No condition of its own. -/
import Derived.Test.YtcbaokflimdjnaaPr20
import Derived.Test.YtcbaokflimdjnaaPr13
import Derived.Test.YtcbaokflimdjnaaPr11
import Derived.Test.YtcbaokflimdjnaaPr5
section
namespace Go.Proofs.Ytcbaokflimdjnaa.Flow
open Go.RowKit Go.Proofs.YtcbaokflimdjnaaW.PrintWords Go.Proofs.YtcbaokflimdjnaaW.PrintLast Go.Proofs.Ytcbaokflimdjnaa.Steps Go.Proofs.YtcbaokflimdjnaaW.PrintMore Go.Proofs.Ytcbaokflimdjnaa.Law Go.Proofs.Ytcbaokflimdjnaa Go.Proofs.Ytcbaokflimdjnaa.QFnExactVerify Go.Proofs.Ytcbaokflimdjnaa.Num Go.Proofs.Ytcbaokflimdjnaa.PureJoin
set_option linter.unusedVariables false
set_option linter.unusedSimpArgs false
set_option autoImplicit false
def statesI.T3 : Bool × List (List Nat × List Nat) := (true, [([], []), ([], []), ([], []), ([2, 2], [2]), ([], []), ([4, 4], [4]), ([0, 1, 3, 5], [0, 1, 3, 5]), ([6], [6]), ([7, 0, 1, 2, 3, 4, 5, 6, 7], [7])])
def statesI.B3 : List Nat := [0, 0, 0, 4, 0, 16, 63, 127, 255]
theorem statesI.tab3 : rtab .any (opsOf Try.f67 3) = statesI.T3 := by kernel_rfl
theorem statesI.bits3 : waitsOk statesI.T3.2 statesI.B3 = true := by kernel_rfl
def statesI.T17 : Bool × List (List Nat × List Nat) := (true, [([], []), ([0], [0]), ([1], [1]), ([2], [2]), ([], []), ([4], [4]), ([5], [5]), ([6], [6]), ([3, 0, 1, 2, 3], [3]), ([7, 8, 0, 1, 2, 3, 4, 5, 6, 7, 8], [7]), ([9, 0, 1, 2, 3, 4, 5, 6, 7, 8, 9], [])])
def statesI.B17 : List Nat := [0, 1, 3, 7, 0, 16, 48, 112, 15, 511, 1023]
theorem statesI.tab17 : rtab .any (opsOf Try.f67 17) = statesI.T17 := by kernel_rfl
theorem statesI.bits17 : waitsOk statesI.T17.2 statesI.B17 = true := by kernel_rfl
set_option maxHeartbeats 8000000 in
set_option maxRecDepth 100000 in
theorem cStates (x : Image) (j : Nat) (ok : FnOk x (el zFunc x.funcs j)) (hj : j < x.funcs.length) (gx : Nat) (fa : Addr) (c0 : Nat) (A1 : Option Addr) (c1 : Nat) (w : World) (hx0 : w.cell? ⟨gx, 0, none⟩ = some (.slice (some fa) x.funcs.length c0)) (hx1 : w.cell? ⟨gx, 1, none⟩ = some (.slice A1 x.consts.length c1)) (g0 : kFuncI.C w (some fa) x.funcs.length x.funcs) :
    Calls Try.prog 67 #[.pointer (some ⟨gx, 0, none⟩), .int .i64 j] w fun e w' => ∃ v1 v2, e = .returned (.tuple #[v1, v2, .bool (!(final x (el zFunc x.funcs j)).bad)]) ∧ ((final x (el zFunc x.funcs j)).bad = true → v1 = .slice none 0 0 ∧ v2 = .slice none 0 0) ∧ ((final x (el zFunc x.funcs j)).bad = false → kStateI.R 31 w' w.heap.size (fun _ => True) v1 (final x (el zFunc x.funcs j)).list ∧ Kd.bool.R 4 w' w.heap.size (fun _ => True) v2 (final x (el zFunc x.funcs j)).reached) ∧ Below w.heap.size w w' := by
  have hu := Try.underlying31; have hu1 := Try.underlying48; have hu2 := Try.underlying73; have hu3 := Try.underlying26; have hu4 := Try.underlying49; have hu5 := Try.underlying34; have hu6 := Try.underlying37; have hu7 := Try.underlying149; have hu8 := Try.underlying70
  obtain ⟨fa0, A2, c2, A3, c3, A4, c4, hfa, x0, x1, x2, x3, x4, hcap, hcode, hhan⟩ := func_at5 g0 j hj
  cases hfa
  have HGO := Aside0.mk (fun (g lo : Nat) (W : World) (r : Fl) (vl vr vt : Value) (hr : Run 149 #[.pointer (some ⟨gx, 0, none⟩), .pointer (some (fa.add (j * 5))), vl, vr, vt, .bool r.bad] 0 g lo w W r vl vr vt) (hI : Inv (el zFunc x.funcs j).code.length (el zFunc x.funcs j).regs.toNat r) (p : Nat) (hp : p < (el zFunc x.funcs j).code.length) (hpr : el false r.reached p = true) => cGo1 x j ok hj gx fa c0 A1 c1 g lo w W hx0 hx1 g0 r vl vr vt hr hI p hp hpr)
  have hj0 : (0 : Int) ≤ (j : Int) := by omega
  have hj1 : (j : Int) < (x.funcs.length : Int) := by omega
  obtain ⟨f, hfe⟩ : ∃ f, f = el zFunc x.funcs j := ⟨_, rfl⟩
  rw [← hfe] at x0 x1 x3 HGO ok ⊢
  have F0 := Aside0.mk x0; have F1 := Aside0.mk x1; have F3 := Aside0.mk x3
  have hkl := ok.kl; have hhl := ok.hl; have hrg := ok.rg; have hpm := ok.pr
  clear hfe g0 hx1 hcap hcode hhan x0 x1 x2 x4 ok hj
  obtain ⟨n, hn⟩ : ∃ n : Nat, n = f.code.length := ⟨_, rfl⟩
  have HN := Aside0.mk hn
  rw [← hn] at x3 hkl
  clear hn
  go_enter Try.func67, Try.ntmps67
  go_upto_region 3 with fail
  clear x3 hx0
  go_cut [9] (fun u wx => ∃ (g : Nat) (vl vr : Value) (W3 : World), u = .pointer (some ⟨g, 0, none⟩) ∧ Aside0 (W3 = wx) ∧ Aside0 (Run 149 #[.pointer (some ⟨gx, 0, none⟩), .pointer (some (fa.add (j * 5))), vl, vr, .slice none 0 0, .bool false] 0 g w.heap.size w W3 (blank f) vl vr (.slice none 0 0)))
  case first =>
    refine sz 9 (fun _ => True) [] statesI.tab3 statesI.bits3 trivial (fun HT_ HW_ hHeld => ?_)
    have CD := Aside0.mk (below_drew1 (Below.refl w.heap.size w))
    refine pz 0 24 ?_; refine pz 1 25 ?_; refine pz 2 26 ?_; refine pz 4 28 ?_
    refine twz 3 5 (some 27) (some 29) (fun K hK => ?_) (fun K hK => ?_)
    · skip
      refine Kd.R_make_step kStateI (w0 := _) _ 31 (by rfl) (N := 27) rfl 48 (.tmp 26) (.tmp 26) rfl (n : Int) (by rfl) (by rfl) Try.underlying48 (.agg #[.int .i64 0, .slice none 0 0]) 32 (by kernel_rfl) rfl (by decide) (by omega) zState (ok := fun _ => True) (okp := fun _ => True) (kStateI_mkM _ _ _ zState (Kd.R_nil _ _ _ _ _)) (fun _ hk => hk) trivial (by omega) (by omega) (Below.refl _ _) (Nat.le_refl _) ?_
      intro vL m0 ho hb hg_ hnew_; clear hg_ hnew_
      rw [Int.toNat_natCast] at ho
      obtain ⟨AL, yL, hv⟩ := Kd.R_slice ho; rw [List.length_replicate] at hv; subst hv
      have HL := Aside0.mk (Kd.R_lower ho (CD.out).size)
      have C0 := Aside0.mk (below_step CD.out hb)
      clear ho hb
      refine hK.out _ _ trivial (fun hHeld => ?_); clear hK K; refine kz (some 27) ?_
      refine ez 5 (some 29) (fun K hK => ?_)
      refine Kd.R_make_step Kd.bool (w0 := m0) _ 4 (by rfl) (N := 29) rfl 49 (.tmp 28) (.tmp 28) rfl (n : Int) (by rfl) (by rfl) Try.underlying49 (.bool false) 1 (by kernel_rfl) rfl (by decide) (by omega) false (ok := fun _ => True) (okp := fun _ => True) rfl (fun _ hk => hk) trivial (by omega) (by omega) (Below.refl _ _) (Nat.le_refl _) ?_
      intro vB m1 ho hb hg_ hnew_; clear hg_ hnew_
      rw [Int.toNat_natCast] at ho
      obtain ⟨AB, yB, hv⟩ := Kd.R_slice ho; rw [List.length_replicate] at hv; subst hv
      have HB := Aside0.mk (Kd.R_lower ho (C0.out).size)
      have C1 := Aside0.mk (below_step C0.out hb)
      have HL := Aside0.mk (Kd.R_below HL.out hb)
      clear ho hb
      refine hK.out _ _ trivial (fun hHeld => ?_); clear hK K; refine kz (some 29) ?_
      refine pz 6 30 ?_
      refine ez 7 (some 31) (fun K hK => ?_)
      refine box_step ?hg (N := 31) ?hd (cs := #[.pointer (some ⟨gx, 0, none⟩), .pointer (some (fa.add (j * 5))), (.slice AL n yL), (.slice AB n yB), .slice none 0 0, .bool false]) (t := 149) ?hr ?_; (case hd => rfl); (case hg => rfl); (case hr => first | (go_simp; done) | (go_simp; rfl))
      intro g hg m9 hbx hbb
      have C9 := Aside0.mk (below_step C1.out hbb)
      have RL := Kd.R_below (Kd.R_bound HL.out) hbb; have RB := Kd.R_below (Kd.R_bound HB.out) hbb
      have RR := Aside0.mk (show Run 149 #[.pointer (some ⟨gx, 0, none⟩), .pointer (some (fa.add (j * 5))), (.slice AL n yL), (.slice AB n yB), .slice none 0 0, .bool false] 0 g w.heap.size w m9 (blank f) (.slice AL n yL) (.slice AB n yB) (.slice none 0 0) from ⟨C9.out, Nat.le_refl _, by rw [hg]; exact C1.out.size, hbx, Kd.R_mono (show kStateI.R _ m9 _ _ (.slice AL n yL) (blank f).list by unfold blank; rw [← HN.out]; exact RL) (fun k hk => ⟨by have := hk.2.2.1; omega, by simp [Value.ownBlock]⟩), Kd.R_mono (show Kd.bool.R _ m9 _ _ (.slice AB n yB) (blank f).reached by unfold blank; rw [← HN.out]; exact RB) (fun k hk => by have := hk.2.2.1; omega), Kd.Q_nil _ _ _ _ _⟩)
      clear hg hbx hbb RL RB
      refine hK.out _ _ trivial (fun hHeld => ?_); clear hK K; refine kz (some 31) ?_
      refine pz 8 9 ?_
      refine dz ?_
      try go_wp2_with fail
      go_meet
      exact ⟨_, _, _, _, rfl, ⟨rfl⟩, RR⟩
    · skip
      refine Kd.R_make_step Kd.bool (w0 := _) _ 4 (by rfl) (N := 29) rfl 49 (.tmp 28) (.tmp 28) rfl (n : Int) (by rfl) (by rfl) Try.underlying49 (.bool false) 1 (by kernel_rfl) rfl (by decide) (by omega) false (ok := fun _ => True) (okp := fun _ => True) rfl (fun _ hk => hk) trivial (by omega) (by omega) (Below.refl _ _) (Nat.le_refl _) ?_
      intro vB m0 ho hb hg_ hnew_; clear hg_ hnew_
      rw [Int.toNat_natCast] at ho
      obtain ⟨AB, yB, hv⟩ := Kd.R_slice ho; rw [List.length_replicate] at hv; subst hv
      have HB := Aside0.mk (Kd.R_lower ho (CD.out).size)
      have C0 := Aside0.mk (below_step CD.out hb)
      clear ho hb
      refine hK.out _ _ trivial (fun hHeld => ?_); clear hK K; refine kz (some 29) ?_
      refine ez 3 (some 27) (fun K hK => ?_)
      refine Kd.R_make_step kStateI (w0 := m0) _ 31 (by rfl) (N := 27) rfl 48 (.tmp 26) (.tmp 26) rfl (n : Int) (by rfl) (by rfl) Try.underlying48 (.agg #[.int .i64 0, .slice none 0 0]) 32 (by kernel_rfl) rfl (by decide) (by omega) zState (ok := fun _ => True) (okp := fun _ => True) (kStateI_mkM _ _ _ zState (Kd.R_nil _ _ _ _ _)) (fun _ hk => hk) trivial (by omega) (by omega) (Below.refl _ _) (Nat.le_refl _) ?_
      intro vL m1 ho hb hg_ hnew_; clear hg_ hnew_
      rw [Int.toNat_natCast] at ho
      obtain ⟨AL, yL, hv⟩ := Kd.R_slice ho; rw [List.length_replicate] at hv; subst hv
      have HL := Aside0.mk (Kd.R_lower ho (C0.out).size)
      have C1 := Aside0.mk (below_step C0.out hb)
      have HB := Aside0.mk (Kd.R_below HB.out hb)
      clear ho hb
      refine hK.out _ _ trivial (fun hHeld => ?_); clear hK K; refine kz (some 27) ?_
      refine pz 6 30 ?_
      refine ez 7 (some 31) (fun K hK => ?_)
      refine box_step ?hg (N := 31) ?hd (cs := #[.pointer (some ⟨gx, 0, none⟩), .pointer (some (fa.add (j * 5))), (.slice AL n yL), (.slice AB n yB), .slice none 0 0, .bool false]) (t := 149) ?hr ?_; (case hd => rfl); (case hg => rfl); (case hr => first | (go_simp; done) | (go_simp; rfl))
      intro g hg m9 hbx hbb
      have C9 := Aside0.mk (below_step C1.out hbb)
      have RL := Kd.R_below (Kd.R_bound HL.out) hbb; have RB := Kd.R_below (Kd.R_bound HB.out) hbb
      have RR := Aside0.mk (show Run 149 #[.pointer (some ⟨gx, 0, none⟩), .pointer (some (fa.add (j * 5))), (.slice AL n yL), (.slice AB n yB), .slice none 0 0, .bool false] 0 g w.heap.size w m9 (blank f) (.slice AL n yL) (.slice AB n yB) (.slice none 0 0) from ⟨C9.out, Nat.le_refl _, by rw [hg]; exact C1.out.size, hbx, Kd.R_mono (show kStateI.R _ m9 _ _ (.slice AL n yL) (blank f).list by unfold blank; rw [← HN.out]; exact RL) (fun k hk => ⟨by have := hk.2.2.1; omega, by simp [Value.ownBlock]⟩), Kd.R_mono (show Kd.bool.R _ m9 _ _ (.slice AB n yB) (blank f).reached by unfold blank; rw [← HN.out]; exact RB) (fun k hk => by have := hk.2.2.1; omega), Kd.Q_nil _ _ _ _ _⟩)
      clear hg hbx hbb RL RB
      refine hK.out _ _ trivial (fun hHeld => ?_); clear hK K; refine kz (some 31) ?_
      refine pz 8 9 ?_
      refine dz ?_
      try go_wp2_with fail
      go_meet
      exact ⟨_, _, _, _, rfl, ⟨rfl⟩, RR⟩
  case rest =>
  obtain ⟨g, vl, vr, W3, rfl, HW3, R3⟩ := hcut
  have hw3 := HW3.out; subst hw3; clear HW3
  obtain ⟨R, hR⟩ : ∃ R : Nat, f.regs = R := ⟨f.regs.toNat, by omega⟩
  obtain ⟨pm, hpme⟩ : ∃ pm : Nat, f.params = pm := ⟨f.params.toNat, by omega⟩
  have M3 := Aside0.mk (Mem.start W3)
  have y1 := pw_cell_below R3.out.below F1.out
  rw [hR] at y1
  have HRE := Aside0.mk hR; have HPM := Aside0.mk hpme
  have hR40 : R ≤ 40 := by omega
  have hpR : pm ≤ R := by omega
  clear hR hpme
  go_wp2_with (refine Kd.R_make (Kd.int .i64) _ 3 rfl (N := _) rfl _ _ _ rfl (R : Int) rfl rfl Try.underlying26 (.int .i64 0) 8 (by kernel_rfl) rfl (by decide) (by omega) (0 : Int) (ok := fun _ => True) (okp := fun _ => True) rfl (fun _ hk => hk) trivial (by omega) (by omega) (Below.refl _ _) (Nat.le_refl _) ?_; intro v4 w4 ho hb hg_ hnew_; clear hg_ hnew_; have HO4 := Aside0.mk ho; have HB4 := Aside0.mk hb; clear ho hb; refine Aside0.out ?_)
  refine ⟨?_⟩
  have ho4 := HO4.out
  rw [Int.toNat_natCast] at ho4
  obtain ⟨A4b, y4, hv4⟩ := Kd.R_slice ho4
  rw [List.length_replicate] at hv4; subst hv4
  have M4 := Aside0.mk (M3.out.pushR HB4.out ho4); clear M3 ho4 y1
  obtain ⟨g10, hg10⟩ : ∃ g10 : Nat, g10 = w4.heap.size := ⟨_, rfl⟩
  have M5 := Aside0.mk (M4.out.allocAt hg10 #[.int .i64 0, .slice A4b R y4] 31); clear M4
  have y0 := pw_cell_below (R3.out.step M5.out.below).below F0.out
  rw [HPM.out] at y0
  go_upto_region 6 with fail
  rw [← hg10]
  have HG10 := Aside0.mk hg10; clear hg10 y0
  generalize w4.alloc (.cells #[.int .i64 0, .slice A4b R y4] 31) = w5 at M5 ⊢
  have HE0 := Aside0.mk (show List.replicate R (0 : Int) = filled R 0 from by unfold filled; simp)
  rw [HE0.out] at M5
  clear HO4 HB4
  generalize hlo4 : W3.heap.size = lo4 at M5
  generalize w4.heap.size = hi4 at M5
  go_loopw [42] (fun v wx => ∃ q : Nat, v = .int .i64 q ∧ q ≤ pm ∧ Aside0 (Mem W3 wx [Hold.box g10 #[.int .i64 0, .slice A4b R y4] 31, Hold.val (Kd.slice 3 (Kd.int .i64)) lo4 hi4 (filled R q) [.slice A4b R y4]])) (fun v _ => pm - (intOf v).toNat)
  case atStart => exact ⟨0, rfl, by omega, M5⟩
  case round =>
  clear M5
  obtain ⟨q, rfl, hq, M6⟩ := hrel
  by_cases hlt : q < pm
  · have hle : (q : Int) < (pm : Int) := by omega
    have hr6 := M6.out.row (.tail _ (.head _))
    have hfl := filled_len (R := R) (q := q) (by omega)
    obtain ⟨gq, cq, hgq, hgb, hgl, _⟩ := Kd.R_form hr6 (by omega)
    rw [hfl] at hgq
    injection hgq with e1 e2 e3; subst e1; subst e3; clear e2
    obtain ⟨k0, k1⟩ := Kd.R_celln 0 hr6 (q : Int) (by omega) (by omega)
    rw [Int.toNat_natCast] at k0 k1
    obtain ⟨hp1, hp2⟩ := Kd.R_putg hr6 (q : Int) 1
    rw [Int.toNat_natCast, filled_set (by omega : q < R)] at hp1
    have hok := hr6.1 gq (by simp [Value.ownBlock])
    have hlow : W3.heap.size ≤ gq := by rw [hlo4]; exact hok.1
    have M7 := Aside0.mk (Mem.mark (A := [_]) (y := filled R (q + 1)) M6.out (below_set M6.out.below hlow) (Kept.setCell (Kept.refl _ _) (p := ⟨gq, q, none⟩) (.inl hok) (.int .i64 1)) ⟨_, rfl, hp1⟩)
    have z0 := M6.out.box (.head _)
    have hq0 : (0 : Int) ≤ (q : Int) := by omega
    have hq1 : (q : Int) < (R : Int) := by omega
    clear hr6 hp1 hp2 hok hlow hgb hgl
    clear M6
    go_wp2
    go_roundw
    case measure => simp [intOf]; omega
    case rel => exact ⟨q + 1, by go_num, by omega, M7⟩
  have hle : ¬ (q : Int) < (pm : Int) := by omega
  obtain rfl : pm = q := by omega
  have z0 := M6.out.box (.head _)
  go_wp2_with fail
  clear z0
  have hbg : begin f = ⟨0, filled R pm⟩ := by rw [begin_filled, HRE.out, HPM.out]; rfl
  have HBG := Aside0.mk hbg; clear hbg
  have HIB := Aside0.mk (blank_inv f)
  have R6 := Aside0.mk (R3.out.step M6.out.below)
  have HLW := Aside0.mk (Nat.le_trans R3.out.below.size M6.out.below.size)
  have S6 := Aside0.mk (show SOk g w.heap.size wr (.slice none 0 0) (begin f) [.int .i64 0, .slice A4b R y4] from by
    rw [HBG.out]
    refine kStateI_mkM _ _ _ ⟨0, filled R pm⟩ (Kd.R_lower (Kd.R_mono (M6.out.row (.tail _ (.head _))) (fun k hk => ⟨fun e => ?_, by simp [Value.ownBlock]⟩)) (by rw [← hlo4]; exact R3.out.below.size))
    have h1 := R3.out.lt.1
    have h2 := hk.1
    omega)
  refine (cCome 0 g w.heap.size w _ (blank f) (.pointer (some ⟨gx, 0, none⟩)) (.pointer (some (fa.add (j * 5)))) vl vr (.slice none 0 0) 0 (begin f) [.int .i64 0, .slice A4b R y4] R6.out S6.out (Nat.zero_le _) (by unfold blank; simp) (by rw [HIB.out.lr, HIB.out.ll]) (by rw [HIB.out.ll]; have := HN.out; omega) (by rw [HBG.out, filled_len hpR]; omega) (fun z hz hzr => by rw [HIB.out.rs z (by rw [HIB.out.ll] at hz; exact hz) hzr]; have := HRE.out; omega) (by omega) HLW.out).mono ?_
  rintro e w7 ⟨vt7, rfl, hR7, _, _⟩
  have R7 := Aside0.mk (show Run 149 #[.pointer (some ⟨gx, 0, none⟩), .pointer (some (fa.add (j * 5))), vl, vr, vt7, .bool (start f).bad] 0 g w.heap.size w w7 (start f) vl vr vt7 from hR7)
  clear hR7 M6 R6 S6 HLW R3
  have HI0 := Aside0.mk (start_inv (f := f) (by have := HRE.out; have := HPM.out; omega) (by have := HPM.out; omega))
  have HFIN := Aside0.mk (fun (j : Nat) (hd : done (it x f (start f) j)) => final_of (x := x) (f := f) (by have := HRE.out; have := HPM.out; omega) (by have := HPM.out; omega) hd)
  have HK0 := Aside0.mk (show (start f).k = 0 from (come_inv (p := 0) (blank_inv f) (begin_len (f := f) (by have := HRE.out; have := HPM.out; omega) (by have := HPM.out; omega))).2.kk)
  go_upto_region 12 with fail
  go_loopg [12] (meas f.regs.toNat (start f)) (fun kq v wx => ∃ (m : Nat) (vt' : Value), v = .int .i64 (it x f (start f) m).k ∧ kq = meas f.regs.toNat (it x f (start f) m) ∧ Aside0 (Run 149 #[.pointer (some ⟨gx, 0, none⟩), .pointer (some (fa.add (j * 5))), vl, vr, vt', .bool (it x f (start f) m).bad] 0 g w.heap.size w wx (it x f (start f) m) vl vr vt'))
  case atStart => exact ⟨0, vt7, by show _ = Value.int .i64 ((start f).k : Int); rw [HK0.out]; rfl, rfl, R7⟩
  case round =>
  clear R7
  obtain ⟨m, vt2, rfl, hgk, R8⟩ := hrel
  have HI8 := Aside0.mk (it_inv (x := x) (f := f) HI0.out m)
  have HSS := Aside0.mk (fun (h : ¬ done (it x f (start f) m)) => it_succ (x := x) (f := f) (r := start f) (n := m) h)
  have HFM := Aside0.mk (HFIN.out m)
  obtain ⟨rr, hrr⟩ : ∃ rr, rr = it x f (start f) m := ⟨_, rfl⟩
  rw [← hrr] at R8 HI8 HSS HFM hgk
  rw [← hrr]
  have HGK := Aside0.mk hgk; have HRR := Aside0.mk hrr; clear hgk hrr
  obtain ⟨AT, yT, hvt, hyT⟩ := Kd.Q_slice R8.out.Q
  rw [List.drop_zero] at hvt; subst hvt
  have q4 := (blk_cell R8.out.box 4).trans rfl
  have q5 := (blk_cell R8.out.box 5).trans rfl
  have hql := inv_q HI8.out (by have := HN.out; omega) (by have := HRE.out; omega)
  have fin : ∀ (hd : done rr), final x f = rr := fun hd => (HFM.out hd).symm
  have FIN := Aside0.mk fin; clear fin hyT
  rcases Bool.eq_false_or_eq_true rr.bad with hbd | hbd
  · have HF := Aside0.mk (FIN.out (.inl hbd))
    have HBD := Aside0.mk hbd
    rw [hbd] at q5
    clear hbd
    by_cases hk : rr.k < rr.queue.length
    · have hk2 : (rr.k : Int) < (rr.queue.length : Int) := by omega
      go_wp2
      go_ret3
      exact ⟨.slice none 0 0, .slice none 0 0, congrArg Ending.returned (by rw [HF.out, HBD.out]; rfl), fun _ => ⟨rfl, rfl⟩, (fun h => by rw [HF.out, HBD.out] at h; cases h), R8.out.below⟩
    · have hk2 : ¬ (rr.k : Int) < (rr.queue.length : Int) := by omega
      go_wp2
      go_ret3
      exact ⟨.slice none 0 0, .slice none 0 0, congrArg Ending.returned (by rw [HF.out, HBD.out]; rfl), fun _ => ⟨rfl, rfl⟩, (fun h => by rw [HF.out, HBD.out] at h; cases h), R8.out.below⟩
  · have HBD := Aside0.mk hbd
    rw [hbd] at q5
    clear hbd
    by_cases hk : rr.k < rr.queue.length
    · have hk2 : (rr.k : Int) < (rr.queue.length : Int) := by omega
      have hk0 : (0 : Int) ≤ (rr.k : Int) := by omega
      have hC := (Kd.Q_reads' (by have h := R8.out.Q; rw [show rr.queue.length = (rr.queue.drop 0).length from rfl] at h; exact h)).2.2
      rw [List.drop_zero] at hC
      obtain ⟨qa, rfl, hqc⟩ := int_at hC rr.k hk
      obtain ⟨h1, h2, h3⟩ := HI8.out.qs _ (el_mem 0 hk)
      obtain ⟨pp, hpp⟩ : ∃ pp : Nat, el 0 rr.queue rr.k = pp := ⟨(el 0 rr.queue rr.k).toNat, by omega⟩
      rw [hpp] at hqc h2 h3
      rw [Int.toNat_natCast] at h2 h3
      have HST := Aside0.mk (show it x f (start f) (m + 1) = stepP x f { rr with k := rr.k + 1 } pp from by
        rw [HSS.out (fun hd => by rcases hd with hd | hd; (rw [HBD.out] at hd; cases hd); omega), step_eq, hpp, Int.toNat_natCast])
      have HSK := Aside0.mk (show (stepP x f { rr with k := rr.k + 1 } pp).k = rr.k + 1 from by
        have h := (step_inv (x := x) (f := f) HI8.out hk).2.kk
        rw [step_eq, hpp, Int.toNat_natCast] at h
        exact h)
      have HSM := Aside0.mk (show meas f.regs.toNat (stepP x f { rr with k := rr.k + 1 } pp) < meas f.regs.toNat rr from by
        have h := step_meas (x := x) (f := f) HI8.out hk
        rw [step_eq, hpp, Int.toNat_natCast] at h
        exact h)
      have H2 := Aside0.mk h2; have H3 := Aside0.mk h3; have HPOP := Aside0.mk (HI8.out.pop hk)
      clear hC h1 h2 h3 hpp
      go_wp2_with fail
      refine (HGO.out g w.heap.size _ { rr with k := rr.k + 1 } vl vr (.slice (some qa) rr.queue.length yT) (R8.out.as rfl rfl rfl) HPOP.out pp H2.out H3.out).mono ?_
      rintro e w9 ⟨vt9, rfl, hR9⟩
      have R9 := Aside0.mk hR9; clear hR9 hqc q4 q5
      go_wp2
      go_roundg (meas f.regs.toNat (stepP x f { rr with k := rr.k + 1 } pp))
      case measure => have h1 := HSM.out; have h2 := HGK.out; omega
      case rel => exact ⟨m + 1, vt9, by rw [HST.out, HSK.out]; go_num, by rw [HST.out], by rw [HST.out]; exact R9⟩
    · have hk2 : ¬ (rr.k : Int) < (rr.queue.length : Int) := by omega
      have HF := Aside0.mk (FIN.out (.inr (by omega)))
      go_upto_region 17 with fail
      clear q4 q5
      refine sz 11 (fun W => W.cell? ⟨g, 2, none⟩ = some vl ∧ W.cell? ⟨g, 3, none⟩ = some vr) [] statesI.tab17 statesI.bits17 ⟨(blk_cell (show (World.drew _).heap[g]? = _ from R8.out.box) 2).trans rfl, (blk_cell (show (World.drew _).heap[g]? = _ from R8.out.box) 3).trans rfl⟩ (fun HT_ HW_ hHeld => ?_)
      refine pz 0 82 ?_; refine pz 1 83 ?_; refine pz 2 84 ?_; refine pz 4 86 ?_; refine pz 5 87 ?_; refine pz 6 88 ?_; refine tz 3 85 ?_; refine pz 8 4 ?_; refine tz 7 89 ?_; refine pz 9 5 ?_; refine pz 10 6 ?_
      refine dz ?_
      go_wp2
      go_ret3
      exact ⟨vl, vr, congrArg Ending.returned (by rw [HF.out, HBD.out]; rfl), (fun h => by rw [HF.out, HBD.out] at h; cases h), fun _ => by rw [HF.out]; exact ⟨Kd.R_mono (Kd.R_drew R8.out.L) (fun _ _ => trivial), Kd.R_mono (Kd.R_drew R8.out.B) (fun _ _ => trivial)⟩, below_drew1 R8.out.below⟩
end Go.Proofs.Ytcbaokflimdjnaa.Flow
end
section
namespace Go.Proofs.Ytcbaokflimdjnaa.Flow
open Go.RowKit Go.Proofs.YtcbaokflimdjnaaW.PrintWords Go.Proofs.YtcbaokflimdjnaaW.PrintLast Go.Proofs.Ytcbaokflimdjnaa.Steps Go.Proofs.YtcbaokflimdjnaaW.PrintMore Go.Proofs.Ytcbaokflimdjnaa.Law Go.Proofs.Ytcbaokflimdjnaa Go.Proofs.Ytcbaokflimdjnaa.QFnExactVerify Go.Proofs.Ytcbaokflimdjnaa.Num Go.Proofs.Ytcbaokflimdjnaa.PureJoin
set_option linter.unusedVariables false
set_option linter.unusedSimpArgs false
set_option autoImplicit false
def okFn (x : Image) (fn : Int) : Bool := imgB x && Img.inB fn 0 ((x.funcs.length : Int) - 1)
def flowOf (x : Image) (fn : Int) : Fl := final x (el zFunc x.funcs fn.toNat)
def stOk (x : Image) (fn : Int) : Bool := okFn x fn && !(flowOf x fn).bad
def stList (x : Image) (fn : Int) : List State := if stOk x fn = true then (flowOf x fn).list else []
def stReached (x : Image) (fn : Int) : List Bool := if stOk x fn = true then (flowOf x fn).reached else []
/-- No state has more registers than R. -/
def Small (R : Nat) (r : Fl) : Prop := ∀ y ∈ r.list, y.regs.length ≤ R
theorem Small.at {R : Nat} {r : Fl} (h : Small R r) (p : Nat) : (el zState r.list p).regs.length ≤ R := by
  by_cases hp : p < r.list.length
  · exact h _ (el_mem zState hp)
  · have : el zState r.list p = zState := by unfold el; rw [List.getD_eq_getElem?_getD, List.getElem?_eq_none (by omega)]; rfl
    rw [this]; exact Nat.zero_le _
theorem Small.set {R : Nat} {l : List State} (h : ∀ y ∈ l, y.regs.length ≤ R) (p : Nat) {s : State} (hs : s.regs.length ≤ R) : ∀ y ∈ l.set p s, y.regs.length ≤ R := fun y hy => by
  rcases List.mem_or_eq_of_mem_set hy with hy | rfl
  · exact h y hy
  · exact hs
theorem come_small {R : Nat} {r : Fl} {p : Nat} {s : State} (h : Small R r) (hs : s.regs.length ≤ R) : Small R (come r p s) := by
  unfold come
  split
  · exact h
  · split
    · split
      · exact h
      · refine Small.set h p ?_
        show (joined _ _).length ≤ R
        have := h.at p
        rw [joined_length]
        omega
    · exact Small.set h p hs
theorem hands_small {R : Nat} {r : Fl} {hs : List Handler} {p : Int} {s : State} (h : Small R r) (hl : s.regs.length ≤ R) : ∀ j, Small R (handsTo hs p s r j)
  | 0 => h
  | j + 1 => by
    unfold handsTo
    split
    · exact come_small (hands_small h hl j) hl
    · exact hands_small h hl j
theorem step_small {R : Nat} {r : Fl} {x : Image} {f : Func} (h : Small R r) : Small R (step x f r) := by
  have hs : (el zState r.list (el 0 r.queue r.k).toNat).regs.length ≤ R := h.at _
  have h1 : Small R (handsTo f.handlers ((el 0 r.queue r.k).toNat : Int) (el zState r.list (el 0 r.queue r.k).toNat) { r with k := r.k + 1 } f.handlers.length) := hands_small (r := { r with k := r.k + 1 }) h hs _
  have ha : (afterS (el zIns f.code (el 0 r.queue r.k).toNat) (el zState r.list (el 0 r.queue r.k).toNat)).regs.length ≤ R := by rw [after_len]; exact hs
  unfold step
  simp only
  split
  · unfold next jump
    split <;> split <;> first | exact h1 | exact come_small h1 ha | exact come_small (come_small h1 ha) ha
  · exact h1
theorem it_small {R : Nat} {r : Fl} {x : Image} {f : Func} (h : Small R r) : ∀ j, Small R (it x f r j)
  | 0 => h
  | j + 1 => by
    unfold it
    split
    · exact it_small h j
    · exact step_small (it_small h j)
theorem final_small {x : Image} {f : Func} (h : f.params ≤ f.regs) (h0 : 0 ≤ f.params) : Small f.regs.toNat (final x f) := by
  refine it_small (come_small (fun y hy => ?_) ?_) _
  · rw [List.eq_of_mem_replicate hy]; exact Nat.zero_le _
  · rw [begin_len h h0]; exact Nat.le_refl _
theorem final_len {x : Image} {f : Func} (h : f.params ≤ f.regs) (h0 : 0 ≤ f.params) : (final x f).list.length = f.code.length ∧ (final x f).reached.length = f.code.length := ⟨(it_inv (start_inv h h0) _).ll, (it_inv (start_inv h h0) _).lr⟩
theorem st_no {x : Image} {fn : Int} (h : okFn x fn = false) : stOk x fn = false ∧ stList x fn = [] ∧ stReached x fn = [] := by
  have e : stOk x fn = false := by unfold stOk; rw [h]; rfl
  exact ⟨e, by unfold stList; rw [if_neg (by rw [e]; decide)], by unfold stReached; rw [if_neg (by rw [e]; decide)]⟩
theorem st_bad {x : Image} {fn : Int} (h : (flowOf x fn).bad = true) : stOk x fn = false ∧ stList x fn = [] ∧ stReached x fn = [] := by
  have e : stOk x fn = false := by unfold stOk; rw [h]; simp
  exact ⟨e, by unfold stList; rw [if_neg (by rw [e]; decide)], by unfold stReached; rw [if_neg (by rw [e]; decide)]⟩
theorem st_yes {x : Image} {fn : Int} (h : okFn x fn = true) (hb : (flowOf x fn).bad = false) : stOk x fn = true ∧ stList x fn = (flowOf x fn).list ∧ stReached x fn = (flowOf x fn).reached := by
  have e : stOk x fn = true := by unfold stOk; rw [h, hb]; rfl
  exact ⟨e, by unfold stList; rw [if_pos e], by unfold stReached; rw [if_pos e]⟩
theorem take_el (l : List State) (j : Nat) (h : j < l.length) : l.take (j + 1) = l.take j ++ [el zState l j] := by rw [List.take_add_one, List.getElem?_eq_getElem h, el_lt zState h]; rfl
def imgS.T10 : Bool × List (List Nat × List Nat) := (true, [([], []), ([], []), ([1], [1]), ([2], [2]), ([3], [3]), ([], []), ([4, 5], [4, 5]), ([6], [6]), ([7], [7]), ([], []), ([], []), ([10], [10]), ([11], [11]), ([12], [12]), ([], []), ([13, 14], [13, 14]), ([15], [15]), ([16], [16]), ([9, 17], [9, 17]), ([8, 18], [8, 18]), ([19], [19]), ([0, 20, 18], [0, 20]), ([21, 21, 0, 1, 2, 3, 4, 5, 6, 7, 8, 9, 10, 11, 12, 13, 14, 15, 16, 17, 18, 19, 20, 21], [0, 21])])
def imgS.B10 : List Nat := [0, 0, 2, 6, 14, 0, 62, 126, 254, 0, 0, 1024, 3072, 7168, 0, 31744, 64512, 130048, 261632, 524286, 1048574, 2097151, 4194303]
theorem imgS.tab10 : rtab .any (opsOf Try.f29 10) = imgS.T10 := by kernel_rfl
theorem imgS.bits10 : waitsOk imgS.T10.2 imgS.B10 = true := by kernel_rfl
def imgS.T11 : Bool × List (List Nat × List Nat) := (true, [([], []), ([], []), ([1], [1]), ([2], [2]), ([3], [3]), ([0, 0], [0]), ([4, 5, 0, 1, 2, 3, 4, 5], [4]), ([6, 0, 1, 2, 3, 4, 5, 6], [])])
def imgS.B11 : List Nat := [0, 0, 2, 6, 14, 1, 63, 127]
theorem imgS.tab11 : rtab .any (opsOf Try.f29 11) = imgS.T11 := by kernel_rfl
theorem imgS.bits11 : waitsOk imgS.T11.2 imgS.B11 = true := by kernel_rfl
set_option maxHeartbeats 8000000 in
set_option maxRecDepth 100000 in
theorem cSpStates (x : Image) (fn : Int) (A0 : Option Addr) (c0 : Nat) (A1 : Option Addr) (c1 : Nat) (w : World) (l0 : x.funcs.length ≤ c0) (g0 : kFuncI.C w A0 x.funcs.length x.funcs) (l1 : x.consts.length ≤ c1) (g1 : kConst.C w A1 x.consts.length x.consts) (hn : ∀ y ∈ x.consts, 0 ≤ y.num ∧ y.num < 18446744073709551616) :
    Calls Try.prog 29 #[.agg #[.slice A0 x.funcs.length c0, .slice A1 x.consts.length c1], .int .i64 fn] w fun e w' => ∃ v1 v2, e = .returned (.tuple #[v1, v2, .bool (stOk x fn)]) ∧ kStateI.R 31 w' w.heap.size (fun _ => True) v1 (stList x fn) ∧ Kd.bool.R 4 w' w.heap.size (fun _ => True) v2 (stReached x fn) ∧ Below w.heap.size w w' := by
  have hu := Try.underlying37; have hu1 := Try.underlying34; have hu2 := Try.underlying31; have hu3 := Try.underlying48; have hu4 := Try.underlying26; have hu5 := Try.underlying49; have hu6 := Try.underlying89
  have G0 := Aside0.mk g0; have G1 := Aside0.mk g1; have HN := Aside0.mk hn; have L0 := Aside0.mk l0; have L1 := Aside0.mk l1
  have hlen : x.funcs.length ≤ 9223372036854775807 := g0.2.1
  clear g0 g1 hn l0 l1
  have M0 := Aside0.mk ((Mem.start w).allocAt rfl #[.slice A0 x.funcs.length c0, .slice A1 x.consts.length c1] 37)
  have z := M0.out.box (.head _)
  have i4 : IntKind.i64.wrap ((x.funcs.length : Int) - 1) = (x.funcs.length : Int) - 1 := IntWalk.i64_in _ (by omega)
  have i5 : wrap64 ((x.funcs.length : Int) - 1) = (x.funcs.length : Int) - 1 := by unfold wrap64; omega
  go_enter Try.func29, Try.ntmps29
  go_wp2_with fail
  refine (cImageOkS x A0 c0 A1 c1 _ L0.out (Kd.C_below G0.out M0.out.below) L1.out (Kd.C_below G1.out M0.out.below) HN.out).mono ?_
  rintro e w1 ⟨rfl, hb⟩
  have M1 := Aside0.mk (M0.out.step hb); clear hb M0 z
  have z := M1.out.box (.head _)
  rcases Bool.eq_false_or_eq_true (imgB x) with hi | hi
  rotate_left
  · rw [hi]
    have HR := Aside0.mk (st_no (show okFn x fn = false by unfold okFn; rw [hi]; rfl))
    clear hi
    go_wp2_with (first | ((with_reducible refine gate_dst (N := 22) rfl ?_); refine Kd.R_lit kStateI _ 31 ?hg (N := 22) ?hd (xs := ([] : List State)) (inner := []) (ok := fun _ => True) (okp := fun _ => True) ?hr ?hp (fun _ hk => hk) trivial (Below.refl _ _) (Nat.le_refl _) (by simp) ?_; (case hd => rfl); (case hg => rfl); (case hr => first | (go_simp; done) | (go_simp; rfl)); (case hp => exact (Reps.none _ _)); intro v8 wv8 ho hb hg_ hnew_; clear hg_ hnew_; have HOv8 := Aside0.mk ho; have HBv8 := Aside0.mk hb; clear ho hb) | ((with_reducible refine gate_dst (N := 23) rfl ?_); refine Kd.R_lit Kd.bool _ 4 ?hg (N := 23) ?hd (xs := ([] : List Bool)) (inner := []) (ok := fun _ => True) (okp := fun _ => True) ?hr ?hp (fun _ hk => hk) trivial (Below.refl _ _) (Nat.le_refl _) (by simp) ?_; (case hd => rfl); (case hg => rfl); (case hr => first | (go_simp; done) | (go_simp; rfl)); (case hp => exact (Reps.none _ _)); intro v9 wv9 ho hb hg_ hnew_; clear hg_ hnew_; have HOv9 := Aside0.mk ho; have HBv9 := Aside0.mk hb; clear ho hb))
    go_ret3
    have hb8 := below_step M1.out.below HBv8.out
    exact ⟨v8, v9, by rw [HR.out.1]; rfl, by rw [HR.out.2.1]; exact Kd.R_lower (Kd.R_below HOv8.out HBv9.out) M1.out.below.size, by rw [HR.out.2.2]; exact Kd.R_lower HOv9.out hb8.size, below_step hb8 HBv9.out⟩
  rw [hi]
  have HI := Aside0.mk hi; clear hi
  go_wp2_with fail
  refine (spec_l01In.calls _ _ _ _ _ (Img.spec_in fn 0 ((x.funcs.length : Int) - 1))).mono ?_; rintro e w2 ⟨rfl, ⟨⟨n1, rfl⟩⟩⟩
  have M2 := Aside0.mk (M1.out.draw n1); clear M1 z
  have z := M2.out.box (.head _)
  rcases Bool.eq_false_or_eq_true (Img.inB fn 0 ((x.funcs.length : Int) - 1)) with hf | hf
  rotate_left
  · rw [hf]
    have HR := Aside0.mk (st_no (show okFn x fn = false by unfold okFn; rw [hf]; simp))
    clear hf
    go_wp2_with (first | ((with_reducible refine gate_dst (N := 22) rfl ?_); refine Kd.R_lit kStateI _ 31 ?hg (N := 22) ?hd (xs := ([] : List State)) (inner := []) (ok := fun _ => True) (okp := fun _ => True) ?hr ?hp (fun _ hk => hk) trivial (Below.refl _ _) (Nat.le_refl _) (by simp) ?_; (case hd => rfl); (case hg => rfl); (case hr => first | (go_simp; done) | (go_simp; rfl)); (case hp => exact (Reps.none _ _)); intro v8 wv8 ho hb hg_ hnew_; clear hg_ hnew_; have HOv8 := Aside0.mk ho; have HBv8 := Aside0.mk hb; clear ho hb) | ((with_reducible refine gate_dst (N := 23) rfl ?_); refine Kd.R_lit Kd.bool _ 4 ?hg (N := 23) ?hd (xs := ([] : List Bool)) (inner := []) (ok := fun _ => True) (okp := fun _ => True) ?hr ?hp (fun _ hk => hk) trivial (Below.refl _ _) (Nat.le_refl _) (by simp) ?_; (case hd => rfl); (case hg => rfl); (case hr => first | (go_simp; done) | (go_simp; rfl)); (case hp => exact (Reps.none _ _)); intro v9 wv9 ho hb hg_ hnew_; clear hg_ hnew_; have HOv9 := Aside0.mk ho; have HBv9 := Aside0.mk hb; clear ho hb))
    go_ret3
    have hb8 := below_step M2.out.below HBv8.out
    exact ⟨v8, v9, by rw [HR.out.1]; rfl, by rw [HR.out.2.1]; exact Kd.R_lower (Kd.R_below HOv8.out HBv9.out) M2.out.below.size, by rw [HR.out.2.2]; exact Kd.R_lower HOv9.out hb8.size, below_step hb8 HBv9.out⟩
  rw [hf]
  have HOK := Aside0.mk (show okFn x fn = true by unfold okFn; rw [HI.out, hf]; rfl)
  have hfr := of_decide_eq_true hf
  obtain ⟨jf, rfl⟩ : ∃ jf : Nat, fn = jf := ⟨fn.toNat, by omega⟩
  have hjf : jf < x.funcs.length := by omega
  clear hf hfr
  go_wp2_with fail
  refine (cStatesS x jf (fn_ok HI.out (el_mem zFunc hjf)) hjf A0 c0 A1 c1 _ L0.out (Kd.C_below G0.out M2.out.below)).mono ?_
  rintro e w4 ⟨g, lo, vl, vr, vt, r, rfl, hR, hbd, hgd⟩
  have RR := Aside0.mk hR
  have M3 := Aside0.mk (M2.out.step hR.below); have hs2 := M2.out.below.size; clear hR z M2
  have q3 := (blk_cell RR.out.box 3).trans rfl
  rcases Bool.eq_false_or_eq_true r.bad with hb | hb
  · have HR := Aside0.mk (st_bad (show (flowOf x jf).bad = true from hbd ▸ hb))
    rw [hb] at q3
    clear hb hbd hgd
    go_wp2_with (first | ((with_reducible refine gate_dst (N := 31) rfl ?_); refine Kd.R_lit kStateI _ 31 ?hg (N := 31) ?hd (xs := ([] : List State)) (inner := []) (ok := fun _ => True) (okp := fun _ => True) ?hr ?hp (fun _ hk => hk) trivial (Below.refl _ _) (Nat.le_refl _) (by simp) ?_; (case hd => rfl); (case hg => rfl); (case hr => first | (go_simp; done) | (go_simp; rfl)); (case hp => exact (Reps.none _ _)); intro v8 wv8 ho hb hg_ hnew_; clear hg_ hnew_; have HOv8 := Aside0.mk ho; have HBv8 := Aside0.mk hb; clear ho hb) | ((with_reducible refine gate_dst (N := 32) rfl ?_); refine Kd.R_lit Kd.bool _ 4 ?hg (N := 32) ?hd (xs := ([] : List Bool)) (inner := []) (ok := fun _ => True) (okp := fun _ => True) ?hr ?hp (fun _ hk => hk) trivial (Below.refl _ _) (Nat.le_refl _) (by simp) ?_; (case hd => rfl); (case hg => rfl); (case hr => first | (go_simp; done) | (go_simp; rfl)); (case hp => exact (Reps.none _ _)); intro v9 wv9 ho hb hg_ hnew_; clear hg_ hnew_; have HOv9 := Aside0.mk ho; have HBv9 := Aside0.mk hb; clear ho hb))
    go_ret3
    have hb8 := below_step M3.out.below HBv8.out
    exact ⟨v8, v9, by rw [HR.out.1]; rfl, by rw [HR.out.2.1]; exact Kd.R_lower (Kd.R_below HOv8.out HBv9.out) M3.out.below.size, by rw [HR.out.2.2]; exact Kd.R_lower HOv9.out hb8.size, below_step hb8 HBv9.out⟩
  have hre := hgd hb
  have HR := Aside0.mk (st_yes HOK.out (show (flowOf x jf).bad = false from hbd ▸ hb))
  rw [hb] at q3
  have ok := fn_ok HI.out (el_mem zFunc hjf)
  obtain ⟨n, hnl⟩ : ∃ n : Nat, n = r.list.length := ⟨_, rfl⟩
  have hn300 : n ≤ 300 := by rw [hnl, hre, (final_len ok.rg.1 ok.pr.1).1]; exact ok.kl.2
  have HSM := Aside0.mk (show Small 40 r from fun y hy => Nat.le_trans (final_small ok.rg.1 ok.pr.1 y (hre ▸ hy)) (by have := ok.rg; omega))
  have HRE := Aside0.mk (show r = flowOf x jf from hre)
  have hgl : ∃ (AL : Option Addr) (cl : Nat), vl = .slice AL n cl := by obtain ⟨A, c, h⟩ := Kd.R_slice RR.out.L; exact ⟨A, c, by rw [h, hnl]⟩
  obtain ⟨AL, cl, hvl⟩ := hgl
  subst hvl
  have NL := Aside0.mk hnl
  clear hb hbd hgd hre hnl ok HOK
  go_upto_region 6 with fail
  go_wp2_with ((with_reducible refine gate_dst (N := 33) rfl ?_); refine Kd.R_lit kStateI _ 31 ?hg (N := 33) ?hd (xs := ([] : List State)) (inner := []) (ok := fun _ => True) (okp := fun _ => True) ?hr ?hp (fun _ hk => hk) trivial (Below.refl _ _) (Nat.le_refl _) (by simp) ?_; (case hd => rfl); (case hg => rfl); (case hr => first | (go_simp; done) | (go_simp; rfl)); (case hp => exact (Reps.none _ _)); intro v8 wv8 ho hb hg_ hnew_; clear hg_ hnew_; have HOv8 := Aside0.mk ho; have HBv8 := Aside0.mk hb; clear ho hb)
  have hsz := M3.out.below.size
  go_loopw [8, 9] (fun u v wx => ∃ j : Nat, v = .int .i64 j ∧ j ≤ n ∧ Aside0 (kStateI.R 31 wx w4.heap.size (fun _ => True) u (r.list.take j)) ∧ Aside0 (Below w4.heap.size w4 wx)) (fun _ v _ => n - (intOf v).toNat)
  case atStart => exact ⟨0, rfl, by omega, HOv8, HBv8⟩
  case round =>
  clear HOv8 HBv8 q3
  obtain ⟨j, rfl, hj, HO, HB⟩ := hrel
  have q0 := pw_cell_below HB.out ((blk_cell RR.out.box 0).trans rfl)
  by_cases hlt : j < n
  rotate_left
  · have hle : ¬ (j : Int) < (n : Int) := by omega
    have hje : j = n := by omega
    have Q1 := Aside0.mk ((blk_cell RR.out.box 1).trans rfl); have Q0 := Aside0.mk ((blk_cell RR.out.box 0).trans rfl)
    have hlo := RR.out.hlo
    go_upto_region 11 with fail
    clear q0
    refine sz 8 (fun W => W.cell? ⟨g, 1, none⟩ = some vr ∧ W.cell? ⟨g, 0, none⟩ = some (.slice AL n cl)) [] imgS.tab11 imgS.bits11 ⟨pw_cell_below (below_drew1 HB.out) Q1.out, pw_cell_below (below_drew1 HB.out) Q0.out⟩ (fun HT_ HW_ hHeld => ?_)
    have CD := Aside0.mk (below_drew1 HB.out); have OUT := Aside0.mk (Kd.R_drew HO.out)
    generalize wr.drew = wd at CD OUT hHeld ⊢
    refine pz 0 65 ?_; refine pz 1 66 ?_; refine pz 2 67 ?_; refine pz 3 68 ?_; refine pz 5 4 ?_; refine tz 4 69 ?_; refine pz 6 5 ?_; refine pz 7 6 ?_
    refine dz ?_
    have RB := Aside0.mk (Kd.R_below RR.out.B CD.out)
    clear hHeld
    go_wp2
    go_ret3
    refine ⟨_, _, by rw [HR.out.1]; rfl, ?_, ?_, below_step M3.out.below CD.out⟩
    · rw [HR.out.2.1, ← HRE.out]
      have ho := OUT.out
      rw [hje, NL.out, List.take_length] at ho
      exact Kd.R_lower ho hsz
    · rw [HR.out.2.2, ← HRE.out]
      exact Kd.R_mono (Kd.R_lower RB.out (by omega)) (fun _ _ => trivial)
  have hle : (j : Int) < (n : Int) := by omega
  have hj0 : (0 : Int) ≤ (j : Int) := by omega
  obtain ⟨s, hse⟩ : ∃ s, s = el zState r.list j := ⟨_, rfl⟩
  have hls : s.regs.length ≤ 40 := by rw [hse]; exact HSM.out.at j
  obtain ⟨a, AS, yS, hAL, hK, e0, e1⟩ := StateI_at (Kd.R_reads' RR.out.L).2.2 j (by rw [← NL.out]; exact hlt)
  cases hAL
  obtain ⟨_, _, ce, _, hcs⟩ := kStateI_open hK
  injection ce with ce1 ce2; injection ce2 with ce3 _; injection ce3 with ce4 ce5 ce6; subst ce4; subst ce6; clear ce1 ce5 hK
  rw [← hse] at e0 e1 hcs
  have E0 := Aside0.mk e0; have E1 := Aside0.mk e1; have HCS := Aside0.mk hcs; have HSE := Aside0.mk hse; have Q0 := Aside0.mk ((blk_cell RR.out.box 0).trans rfl)
  clear e0 e1 hcs hse
  go_upto_region 10 with fail
  clear q0
  refine sz 23 (fun W => W.cell? ⟨g, 0, none⟩ = some (.slice (some a) n cl) ∧ W.cell? (a.add (j * 2)) = some (.int .i64 s.acc) ∧ W.cell? ⟨(a.add (j * 2)).block, (a.add (j * 2)).off + 1, none⟩ = some (.slice AS s.regs.length yS)) [] imgS.tab10 imgS.bits10 ⟨pw_cell_below (below_drew1 HB.out) Q0.out, pw_cell_below (below_drew1 HB.out) E0.out, pw_cell_below (below_drew1 HB.out) E1.out⟩ (fun HT_ HW_ hHeld => ?_)
  have CD := Aside0.mk (below_drew1 HB.out); have OUT := Aside0.mk (Kd.R_drew HO.out)
  generalize wr.drew = wd at CD OUT hHeld ⊢
  refine pz 0 43 ?_; refine pz 1 44 ?_; refine pz 2 45 ?_; refine pz 3 46 ?_; refine pz 5 48 ?_; refine pz 10 53 ?_; refine pz 11 54 ?_; refine pz 12 55 ?_; refine pz 14 57 ?_; refine tz 4 47 ?_; refine pz 6 49 ?_; refine pz 7 50 ?_; refine tz 8 51 ?_; refine tz 13 56 ?_; refine pz 15 58 ?_; refine pz 16 59 ?_; refine tz 17 60 ?_
  refine ez 9 (some 52) (fun K hK => ?_)
  refine Kd.R_lit_step (Kd.int .i64) (w0 := wd) wd.heap.size 3 ?hg (N := 52) ?hd (xs := ([] : List Int)) (inner := []) (ok := fun _ => True) (okp := fun _ => True) ?hr ?hp (fun _ hk => hk) trivial (Below.refl _ _) (Nat.le_refl _) (by simp) ?_; (case hd => rfl); (case hg => rfl); (case hr => first | (go_simp; done) | (go_simp; rfl)); (case hp => exact (Reps.none _ _))
  intro v5 w5 ho hb hg_ hnew_; clear hg_ hnew_
  have HO5 := Aside0.mk ho; have B5 := Aside0.mk hb; have C5 := Aside0.mk (below_step CD.out hb); clear ho hb
  refine hK.out _ _ ⟨pw_cell_below C5.out Q0.out, pw_cell_below C5.out E0.out, pw_cell_below C5.out E1.out⟩ (fun hHeld => ?_); clear hK K; refine kz (some 52) ?_
  refine ez 18 (some 61) (fun K hK => ?_)
  refine Kd.R_append_rows_step (Kd.int .i64) (w0 := wd) wd.heap.size (by rfl) (.tmp 52) (.tmp 60) 26 3 (.int .i64 0) 8 rfl Try.underlying26 info3 rfl (by decide) (by omega) v5 [] s.regs _ _ _ (fun _ => True) (fun _ => False) rfl rfl ?aO ?aR (fun _ _ h => h) (fun _ h => h.elim) ?aF ?aB ?aS ?aL ?_
  (case aR => exact Kd.C_below HCS.out C5.out)
  (case aO => exact HO5.out)
  (case aF => exact fun _ _ => trivial)
  (case aB => exact B5.out)
  (case aS => exact B5.out.size)
  (case aL => simp; omega)
  intro v6 w6 ho hb hg_ hat_; clear hg_ hat_
  rw [List.nil_append] at ho
  obtain ⟨A6, y6, rfl⟩ := Kd.R_slice ho
  have HO6 := Aside0.mk ho; have C6 := Aside0.mk (below_step CD.out hb); have OUT6 := Aside0.mk (Kd.R_below OUT.out hb); clear ho hb
  refine hK.out _ _ ⟨pw_cell_below C6.out Q0.out, pw_cell_below C6.out E0.out, pw_cell_below C6.out E1.out⟩ (fun hHeld => ?_); clear hK K; refine kz (some 61) ?_
  refine pz 19 62 ?_
  refine ez 20 (some 63) (fun K hK => ?_)
  refine value_ (w1 := ?_) (v := ?_) (by rfl) rfl ?_ ?_
  rotate_left 2
  · go_simp
    constructor
    · rfl
    · rfl
  refine hK.out _ _ ⟨pw_cell_below (below_alloc C6.out _) Q0.out, pw_cell_below (below_alloc C6.out _) E0.out, pw_cell_below (below_alloc C6.out _) E1.out⟩ (fun hHeld => ?_); clear hK K; refine kz (some 63) ?_
  refine ez 21 (some 64) (fun K hK => ?_)
  refine Kd.R_append_step kStateI (w0 := w4) w4.heap.size (by rfl) (.tmp 43) (.tmp 63) 48 31 (.agg #[.int .i64 0, .slice none 0 0]) 32 rfl Try.underlying48 (by kernel_rfl) rfl (by decide) (by omega) _ (r.list.take j) s [.int .i64 s.acc, .slice A6 s.regs.length y6] (fun _ => True) (fun k => wd.heap.size ≤ k) ?aV ?aX ?aP ?aK (fun _ _ => trivial) OUT6.out C6.out C6.out.size ?aL ?_
  (case aV => first | rfl | (go_simp; done) | (go_simp; rfl))
  (case aX => first | rfl | (go_simp; done) | (go_simp; rfl))
  (case aP => exact kStateI_mkM _ _ _ s (Kd.R_lower (Kd.R_mono (Kd.R_bound HO6.out) (fun k hk => hk.2.1)) CD.out.size))
  (case aK => exact fun k hk => ⟨trivial, fun he => by have := Kd.R_lt OUT.out k he.symm; omega⟩)
  (case aL => simp; omega)
  intro v9 w9 ho hb hg_ hat_; clear hg_ hat_
  have HO9 := Aside0.mk ho; have C9 := Aside0.mk hb; clear ho hb
  refine hK.out _ _ ⟨pw_cell_below C9.out Q0.out, pw_cell_below C9.out E0.out, pw_cell_below C9.out E1.out⟩ (fun hHeld => ?_); clear hK K; refine kz (some 64) ?_
  refine pz 22 8 ?_
  refine dz ?_
  clear hHeld
  go_wp2
  go_roundw
  case measure => simp [intOf]; omega
  case rel => exact ⟨j + 1, by go_num, by omega, ⟨by rw [take_el _ _ (by rw [← NL.out]; exact hlt), ← HSE.out]; exact HO9.out⟩, C9⟩
end Go.Proofs.Ytcbaokflimdjnaa.Flow
end
section
namespace Go.Proofs.Ytcbaokflimdjnaa.Flow
open Go.RowKit Go.Proofs.YtcbaokflimdjnaaW.PrintWords Go.Proofs.YtcbaokflimdjnaaW.PrintMore Go.Proofs.Ytcbaokflimdjnaa.Law Go.Proofs.Ytcbaokflimdjnaa Go.Proofs.Ytcbaokflimdjnaa.QFnExactVerify Go.Proofs.Ytcbaokflimdjnaa.Num
set_option linter.unusedVariables false
set_option linter.unusedSimpArgs false
set_option autoImplicit false
theorem bool_at {w : World} {A : Option Addr} {l : List Bool} (h : Kd.bool.C w A l.length l) (j : Nat) (hj : j < l.length) : ∃ a, A = some a ∧ w.cell? (a.add j) = some (.bool (el false l j)) := by
  obtain ⟨a, c, e, hK, hc⟩ := kd_at false h j hj
  have hc' : c = [.bool (el false l j)] := hK
  subst hc'
  exact ⟨a, e, by simpa [Kd.bool, Kd.scalar] using hc 0 _ rfl⟩
/-- How many of the first are true. -/
def trues (l : List Bool) : Nat := l.countP (fun b => b)
theorem trues_step (l : List Bool) (j : Nat) (h : j < l.length) : trues (l.take (j + 1)) = trues (l.take j) + (if el false l j = true then 1 else 0) := by
  unfold trues
  rw [List.take_add_one, List.getElem?_eq_getElem h, List.countP_append, el_lt false h]
  cases l[j] <;> simp
theorem trues_le (l : List Bool) (j : Nat) : trues (l.take j) ≤ l.length := Nat.le_trans List.countP_le_length (by rw [List.length_take]; omega)
end Go.Proofs.Ytcbaokflimdjnaa.Flow
end
section
namespace Go.Proofs.Ytcbaokflimdjnaa.Flow
open Go.RowKit Go.Proofs.YtcbaokflimdjnaaW.PrintWords Go.Proofs.YtcbaokflimdjnaaW.PrintLast Go.Proofs.YtcbaokflimdjnaaW.PrintMore Go.Proofs.Ytcbaokflimdjnaa.Law Go.Proofs.Ytcbaokflimdjnaa Go.Proofs.Ytcbaokflimdjnaa.QFnExactVerify Go.Proofs.Ytcbaokflimdjnaa.Num Go.Proofs.Ytcbaokflimdjnaa.PureJoin
set_option linter.unusedVariables false
set_option linter.unusedSimpArgs false
set_option autoImplicit false
def verN (x : Image) : Nat → Nat → Int
  | 0, _ => -1
  | k + 1, i => if (final x (el zFunc x.funcs i)).bad = true then (i : Int) else verN x k (i + 1)
def verI (x : Image) : Int := if imgB x = true then verN x x.funcs.length 0 else -2
theorem ver_step {x : Image} {n k : Nat} (hk : k < n) : verN x (n - k) k = if (final x (el zFunc x.funcs k)).bad = true then (k : Int) else verN x (n - (k + 1)) (k + 1) := by
  obtain ⟨d, hd⟩ : ∃ d, n - k = d + 1 := ⟨n - k - 1, by omega⟩
  rw [hd, show n - (k + 1) = d by omega]
  rfl
set_option maxHeartbeats 8000000 in
set_option maxRecDepth 100000 in
theorem cVerS (x : Image) (A0 : Option Addr) (c0 : Nat) (A1 : Option Addr) (c1 : Nat) (w : World) (l0 : x.funcs.length ≤ c0) (g0 : kFuncI.C w A0 x.funcs.length x.funcs) (l1 : x.consts.length ≤ c1) (g1 : kConst.C w A1 x.consts.length x.consts) (hn : ∀ y ∈ x.consts, 0 ≤ y.num ∧ y.num < 18446744073709551616) :
    Calls Try.prog 23 #[.agg #[.slice A0 x.funcs.length c0, .slice A1 x.consts.length c1]] w fun e w' => e = .returned (.int .i64 (verI x)) ∧ Below w.heap.size w w' := by
  have hu := Try.underlying37; have hu1 := Try.underlying34; have hu2 := Try.underlying89
  have G0 := Aside0.mk g0; have G1 := Aside0.mk g1; have HN := Aside0.mk hn; have L0 := Aside0.mk l0; have L1 := Aside0.mk l1
  clear g0 g1 hn l0 l1
  have M0 := Aside0.mk ((Mem.start w).allocAt rfl #[.slice A0 x.funcs.length c0, .slice A1 x.consts.length c1] 37)
  have z := M0.out.box (.head _)
  go_enter Try.func23, Try.ntmps23
  go_wp2_with fail
  refine (cImageOkS x A0 c0 A1 c1 _ L0.out (Kd.C_below G0.out M0.out.below) L1.out (Kd.C_below G1.out M0.out.below) HN.out).mono ?_
  rintro e w1 ⟨rfl, hb⟩
  have M1 := Aside0.mk (M0.out.step hb); clear hb M0 z
  rcases Bool.eq_false_or_eq_true (imgB x) with hi | hi
  rotate_left
  · rw [hi]
    have HR := Aside0.mk (show verI x = -2 by unfold verI; rw [hi]; rfl)
    clear hi
    go_wp2
    go_ret
    exact ⟨by rw [HR.out]; rfl, M1.out.below⟩
  rw [hi]
  have HR := Aside0.mk (show verI x = verN x x.funcs.length 0 by unfold verI; rw [if_pos hi])
  have HI := Aside0.mk hi; clear hi
  have hlen := (img_len HI.out).2.1
  go_upto_region 4 with fail
  go_loopw [3] (fun v wx => ∃ k : Nat, v = .int .i64 k ∧ k ≤ x.funcs.length ∧ Aside0 (verN x x.funcs.length 0 = verN x (x.funcs.length - k) k) ∧ Aside0 (Mem w wx [Hold.box w.heap.size #[.slice A0 x.funcs.length c0, .slice A1 x.consts.length c1] 37])) (fun v _ => x.funcs.length - (intOf v).toNat)
  case atStart => exact ⟨0, rfl, by omega, ⟨rfl⟩, M1⟩
  case round =>
  clear M1
  obtain ⟨k, rfl, hk, HV, M2⟩ := hrel
  have z := M2.out.box (.head _)
  by_cases hlt : k < x.funcs.length
  · have hle : (k : Int) < (x.funcs.length : Int) := by omega
    have HS := Aside0.mk (ver_step (x := x) hlt)
    go_wp2_with fail
    refine (cStatesS x k (fn_ok HI.out (el_mem zFunc hlt)) hlt A0 c0 A1 c1 _ L0.out (Kd.C_below G0.out M2.out.below)).mono ?_
    rintro e w3 ⟨g, lo, vl, vr, vt, r, rfl, hR, hbd, _⟩
    have RR := Aside0.mk hR
    have M3 := Aside0.mk (M2.out.step hR.below); clear hR z M2
    have q3 := (blk_cell RR.out.box 3).trans rfl
    rcases Bool.eq_false_or_eq_true r.bad with hb | hb
    · rw [hb] at q3 hbd
      have HE := Aside0.mk (show verI x = (k : Int) by rw [HR.out, HV.out, HS.out, if_pos hbd.symm])
      clear hb hbd
      go_wp2
      go_ret
      exact ⟨by rw [HE.out]; rfl, M3.out.below⟩
    · rw [hb] at q3 hbd
      have HE := Aside0.mk (show verN x x.funcs.length 0 = verN x (x.funcs.length - (k + 1)) (k + 1) by rw [HV.out, HS.out, if_neg (by rw [← hbd]; decide)])
      clear hb hbd
      go_wp2
      go_roundw
      case measure => simp [intOf]; omega
      case rel => exact ⟨k + 1, by go_num, by omega, HE, M3⟩
  · have hle : ¬ (k : Int) < (x.funcs.length : Int) := by omega
    obtain rfl : k = x.funcs.length := by omega
    have HE := Aside0.mk (show verI x = -1 by rw [HR.out, HV.out, Nat.sub_self]; rfl)
    go_wp2
    go_ret
    exact ⟨by rw [HE.out]; rfl, M2.out.below⟩
set_option maxHeartbeats 8000000 in
set_option maxRecDepth 100000 in
theorem cVerI (x : Image) (A0 : Option Addr) (c0 : Nat) (A1 : Option Addr) (c1 : Nat) (w : World) (l0 : x.funcs.length ≤ c0) (g0 : kFuncI.C w A0 x.funcs.length x.funcs) (l1 : x.consts.length ≤ c1) (g1 : kConst.C w A1 x.consts.length x.consts) (hn : ∀ y ∈ x.consts, 0 ≤ y.num ∧ y.num < 18446744073709551616) :
    Calls Try.prog 24 #[.agg #[.slice A0 x.funcs.length c0, .slice A1 x.consts.length c1]] w fun e w' => e = .returned (.int .i64 (verI x)) ∧ Below w.heap.size w w' := by
  have hu := Try.underlying37; have hu1 := Try.underlying34
  have G0 := Aside0.mk g0; have G1 := Aside0.mk g1; have HN := Aside0.mk hn; have L0 := Aside0.mk l0; have L1 := Aside0.mk l1
  clear g0 g1 hn l0 l1
  have M0 := Aside0.mk ((Mem.start w).allocAt rfl #[.slice A0 x.funcs.length c0, .slice A1 x.consts.length c1] 37)
  have z := M0.out.box (.head _)
  go_enter Try.func24, Try.ntmps24
  go_wp2_with fail
  refine (cImageOkI x A0 c0 A1 c1 _ L0.out (Kd.C_below G0.out M0.out.below) L1.out (Kd.C_below G1.out M0.out.below) HN.out).mono ?_
  rintro e w1 ⟨rfl, hb⟩
  have M1 := Aside0.mk (M0.out.step hb); clear hb M0 z
  rcases Bool.eq_false_or_eq_true (imgB x) with hi | hi
  rotate_left
  · rw [hi]
    have HR := Aside0.mk (show verI x = -2 by unfold verI; rw [hi]; rfl)
    clear hi
    go_wp2
    go_ret
    exact ⟨by rw [HR.out]; rfl, M1.out.below⟩
  rw [hi]
  have HR := Aside0.mk (show verI x = verN x x.funcs.length 0 by unfold verI; rw [if_pos hi])
  have HI := Aside0.mk hi; clear hi
  have hlen := (img_len HI.out).2.1
  have hpos := (img_len HI.out).1
  obtain ⟨fa, A2, c2, A3, c3, A4, c4, hfa, _⟩ := func_at5 G0.out 0 (by omega)
  subst hfa
  have z := M1.out.box (.head _)
  go_upto_region 4 with fail
  clear z
  go_loopw [13] (fun v wx => ∃ k : Nat, v = .int .i64 k ∧ k ≤ x.funcs.length ∧ Aside0 (verN x x.funcs.length 0 = verN x (x.funcs.length - k) k) ∧ Aside0 (Mem w wx [Hold.box w.heap.size #[.slice (some fa) x.funcs.length c0, .slice A1 x.consts.length c1] 37])) (fun v _ => x.funcs.length - (intOf v).toNat)
  case atStart => exact ⟨0, rfl, by omega, ⟨rfl⟩, M1⟩
  case round =>
  clear M1
  obtain ⟨k, rfl, hk, HV, M2⟩ := hrel
  by_cases hlt : k < x.funcs.length
  · have hle : (k : Int) < (x.funcs.length : Int) := by omega
    have HS := Aside0.mk (ver_step (x := x) hlt)
    go_wp2_with fail
    refine (cStates x k (fn_ok HI.out (el_mem zFunc hlt)) hlt w.heap.size fa c0 A1 c1 _ ((M2.out.box (.head _) 0).trans rfl) ((M2.out.box (.head _) 1).trans rfl) (Kd.C_below G0.out M2.out.below)).mono ?_
    rintro e w3 ⟨v1, v2, rfl, _, _, hb3⟩
    have M3 := Aside0.mk (M2.out.step hb3); clear hb3 M2
    rcases Bool.eq_false_or_eq_true (final x (el zFunc x.funcs k)).bad with hb | hb
    · have HE := Aside0.mk (show verI x = (k : Int) by rw [HR.out, HV.out, HS.out, if_pos hb])
      rw [hb]
      clear hb
      go_wp2
      go_ret
      exact ⟨by rw [HE.out]; rfl, M3.out.below⟩
    · have HE := Aside0.mk (show verN x x.funcs.length 0 = verN x (x.funcs.length - (k + 1)) (k + 1) by rw [HV.out, HS.out, if_neg (by rw [hb]; decide)])
      rw [hb]
      clear hb
      go_wp2
      go_roundw
      case measure => simp [intOf]; omega
      case rel => exact ⟨k + 1, by go_num, by omega, HE, M3⟩
  · have hle : ¬ (k : Int) < (x.funcs.length : Int) := by omega
    obtain rfl : k = x.funcs.length := by omega
    have HE := Aside0.mk (show verI x = -1 by rw [HR.out, HV.out, Nat.sub_self]; rfl)
    go_wp2
    go_ret
    exact ⟨by rw [HE.out]; rfl, M2.out.below⟩
end Go.Proofs.Ytcbaokflimdjnaa.Flow
end
section
namespace Go.Proofs.Ytcbaokflimdjnaa.Flow
open Go.RowKit Go.Proofs.YtcbaokflimdjnaaW.PrintWords Go.Proofs.YtcbaokflimdjnaaW.PrintMore Go.Proofs.Ytcbaokflimdjnaa.Law Go.Proofs.Ytcbaokflimdjnaa
set_option linter.unusedVariables false
set_option autoImplicit false
/-- How many are reached ahead of a place. -/
def ahead (l : List Bool) (i : Nat) : Int := (trues (l.take i) : Int)
def aheadL (l : List Bool) (n : Nat) : List Int := (List.range n).map (ahead l)
def pIns (l : List Bool) (i : Ins) : Ins := if isJump i.op = true then ⟨i.op, ahead l i.a.toNat, i.b⟩ else i
def pCodeTo (l : List Bool) (code : List Ins) : Nat → List Ins
  | 0 => []
  | j + 1 => if el false l j = true then pCodeTo l code j ++ [pIns l (el zIns code j)] else pCodeTo l code j
def pHandB (l : List Bool) (h : Handler) : Bool := decide (h.target < (l.length : Int)) && el false l h.target.toNat
def pHand (l : List Bool) (h : Handler) : Handler := ⟨ahead l h.from_.toNat, ahead l h.to_.toNat, ahead l h.target.toNat⟩
def pHandsTo (l : List Bool) (hs : List Handler) : Nat → List Handler
  | 0 => []
  | j + 1 => if pHandB l (el zHandler hs j) = true then pHandsTo l hs j ++ [pHand l (el zHandler hs j)] else pHandsTo l hs j
def pFunc (l : List Bool) (f : Func) : Func := ⟨f.params, f.regs, f.caps, pCodeTo l f.code f.code.length, pHandsTo l f.handlers f.handlers.length⟩
def pFuncsTo (x : Image) : Nat → List Func
  | 0 => []
  | j + 1 => pFuncsTo x j ++ [pFunc (final x (el zFunc x.funcs j)).reached (el zFunc x.funcs j)]
def pruneI (x : Image) : Image := if verI x = -1 then ⟨pFuncsTo x x.funcs.length, x.consts⟩ else ⟨[], []⟩
theorem aheadL_len (l : List Bool) (n : Nat) : (aheadL l n).length = n := by simp [aheadL]
theorem aheadL_one (l : List Bool) : aheadL l 1 = [0] := by simp [aheadL, ahead, trues]
theorem aheadL_succ (l : List Bool) (n : Nat) : aheadL l (n + 1) = aheadL l n ++ [ahead l n] := by unfold aheadL; rw [List.range_succ, List.map_append]; rfl
theorem el_aheadL (l : List Bool) {n i : Nat} (h : i < n) : el 0 (aheadL l n) i = ahead l i := by simp [el, aheadL, h]
theorem ahead_in (l : List Bool) {i : Nat} (h : i < l.length) : ahead l (i + 1) = ahead l i + (if el false l i = true then 1 else 0) := by
  unfold ahead
  rw [trues_step l i h]
  split <;> simp
theorem ahead_out (l : List Bool) {i : Nat} (h : ¬ i < l.length) : ahead l (i + 1) = ahead l i := by
  unfold ahead
  rw [List.take_of_length_le (by omega), List.take_of_length_le (by omega)]
theorem ahead_le (l : List Bool) (i : Nat) : 0 ≤ ahead l i ∧ ahead l i ≤ (l.length : Int) := by
  have := trues_le l i
  unfold ahead
  omega
theorem pCodeTo_len (l : List Bool) (code : List Ins) : ∀ j, (pCodeTo l code j).length ≤ j
  | 0 => Nat.le_refl _
  | j + 1 => by
    have := pCodeTo_len l code j
    unfold pCodeTo
    split
    · rw [List.length_append]; show _ + 1 ≤ _; omega
    · omega
theorem pHandsTo_len (l : List Bool) (hs : List Handler) : ∀ j, (pHandsTo l hs j).length ≤ j
  | 0 => Nat.le_refl _
  | j + 1 => by
    have := pHandsTo_len l hs j
    unfold pHandsTo
    split
    · rw [List.length_append]; show _ + 1 ≤ _; omega
    · omega
theorem pFuncsTo_len (x : Image) : ∀ j, (pFuncsTo x j).length = j
  | 0 => rfl
  | j + 1 => by unfold pFuncsTo; rw [List.length_append, pFuncsTo_len x j]; rfl
theorem verN_ok {x : Image} : ∀ (k i : Nat), verN x k i = -1 → ∀ j, i ≤ j → j < i + k → (final x (el zFunc x.funcs j)).bad = false
  | 0, i, _, j, h1, h2 => by omega
  | k + 1, i, h, j, h1, h2 => by
    unfold verN at h
    by_cases hb : (final x (el zFunc x.funcs i)).bad = true
    · rw [if_pos hb] at h; omega
    · rw [if_neg hb] at h
      rcases Nat.eq_or_lt_of_le h1 with e | e
      · subst e; simpa using hb
      · exact verN_ok k (i + 1) h j e (by omega)
theorem ver_ok {x : Image} (h : verI x = -1) : imgB x = true ∧ ∀ j, j < x.funcs.length → (final x (el zFunc x.funcs j)).bad = false := by
  unfold verI at h
  by_cases hi : imgB x = true
  · rw [if_pos hi] at h
    exact ⟨hi, fun j hj => verN_ok _ 0 h j (Nat.zero_le _) (by omega)⟩
  · rw [if_neg hi] at h; omega
end Go.Proofs.Ytcbaokflimdjnaa.Flow
end
section
namespace Go.Proofs.Ytcbaokflimdjnaa.Flow
open Go.RowKit Go.Proofs.YtcbaokflimdjnaaW.PrintWords Go.Proofs.YtcbaokflimdjnaaW.PrintLast Go.Proofs.Ytcbaokflimdjnaa.Steps Go.Proofs.YtcbaokflimdjnaaW.PrintMore Go.Proofs.Ytcbaokflimdjnaa.Law Go.Proofs.Ytcbaokflimdjnaa Go.Proofs.Ytcbaokflimdjnaa.QFnExactVerify Go.Proofs.Ytcbaokflimdjnaa.Num
set_option linter.unusedVariables false
set_option linter.unusedSimpArgs false
set_option autoImplicit false
def prI.T10 : Bool × List (List Nat × List Nat) := (true, [([], []), ([0], [0]), ([], []), ([2], [2]), ([], []), ([4], [4]), ([5], [5]), ([1, 3, 6], [1, 3, 6]), ([], []), ([8, 7, 6, 0, 1, 2, 3, 4, 5, 6, 7, 8], [7, 8])])
def prI.B10 : List Nat := [0, 1, 0, 4, 0, 16, 48, 127, 0, 511]
theorem prI.tab10 : rtab .any (opsOf Try.f69 10) = prI.T10 := by kernel_rfl
theorem prI.bits10 : waitsOk prI.T10.2 prI.B10 = true := by kernel_rfl
def prI.T23 : Bool × List (List Nat × List Nat) := (true, [([], []), ([0], [0]), ([], []), ([], []), ([3], [3]), ([2, 4], [2, 4]), ([5], [5]), ([], []), ([], []), ([8], [8]), ([7, 9], [7, 9]), ([10], [10]), ([], []), ([], []), ([13], [13]), ([12, 14], [12, 14]), ([15], [15]), ([6, 11, 16], [6, 11, 16]), ([17], [17]), ([1, 18], [1, 18]), ([0, 1, 2, 3, 4, 5, 6, 7, 8, 9, 10, 11, 12, 13, 14, 15, 16, 17, 18, 19], []), ([20, 19, 19, 0, 1, 2, 3, 4, 5, 6, 7, 8, 9, 10, 11, 12, 13, 14, 15, 16, 17, 18, 19], [19, 20])])
def prI.B23 : List Nat := [0, 1, 0, 0, 8, 28, 60, 0, 0, 256, 896, 1920, 0, 0, 8192, 28672, 61440, 131068, 262140, 524287, 1048575, 2097151]
theorem prI.tab23 : rtab .any (opsOf Try.f69 23) = prI.T23 := by kernel_rfl
theorem prI.bits23 : waitsOk prI.T23.2 prI.B23 = true := by kernel_rfl
set_option maxHeartbeats 8000000 in
set_option maxRecDepth 100000 in
theorem cPrunedI (f : Func) (l : List Bool) (cs : List Value) (AR : Option Addr) (cR : Nat) (w : World) (hk : kFuncI.K w f cs) (hr : Kd.bool.C w AR l.length l) (hll : l.length = f.code.length) (hkl : f.code.length ≤ 300) (hhl : f.handlers.length ≤ 40) (hcl : f.caps.length ≤ 20)
    (hcode : ∀ i ∈ f.code, (1 ≤ i.op ∧ i.op ≤ 19) ∧ (0 ≤ i.a ∧ i.a ≤ 300) ∧ (0 ≤ i.b ∧ i.b ≤ 300)) (hhand : ∀ h ∈ f.handlers, (0 ≤ h.from_ ∧ h.from_ ≤ 300) ∧ (0 ≤ h.to_ ∧ h.to_ ≤ 300) ∧ (0 ≤ h.target ∧ h.target ≤ 300)) :
    Calls Try.prog 69 #[.agg ⟨cs⟩, .slice AR l.length cR] w fun e w' => ∃ ds, e = .returned (.agg ⟨ds⟩) ∧ kFuncI.M w' w.heap.size (fun _ => True) (pFunc l f) ds ∧ Below w.heap.size w w' := by
  obtain ⟨A2, c2, A3, c3, A4, c4, rfl, l2, g2, l3, g3, l4, g4⟩ := kFuncI_open hk
  have hu := Try.underlying73; have hu1 := Try.underlying76; have hu2 := Try.underlying107; have hu3 := Try.underlying26; have hu4 := Try.underlying70; have hu5 := Try.underlying71; have hu6 := Try.underlying69; have hu7 := Try.underlying49
  have G2 := Aside0.mk g2; have G3 := Aside0.mk g3; have G4 := Aside0.mk g4; have HRL := Aside0.mk hr; have HC := Aside0.mk hcode; have HH := Aside0.mk hhand; have HLL := Aside0.mk hll
  clear hk g2 g3 g4 l2 l3 l4 hr hcode hhand
  have hl300 : l.length ≤ 300 := by omega
  clear hll
  have M0 := Aside0.mk (((Mem.start w).allocAt rfl #[.int .i64 f.params, .int .i64 f.regs, .slice A2 f.caps.length c2, .slice A3 f.code.length c3, .slice A4 f.handlers.length c4] 73).allocAt (g := w.heap.size + 1) (by simp) #[.int .i64 0, .int .i64 0, .slice none 0 0, .slice none 0 0, .slice none 0 0] 73)
  go_enter Try.func69, Try.ntmps69
  go_upto_region 3 with ((with_reducible refine gate_dst (N := 13) rfl ?_); refine Kd.R_lit (Kd.int .i64) _ 3 ?hg (N := 13) ?hd (xs := ([0] : List Int)) (inner := [.int .i64 0]) (ok := fun _ => True) (okp := fun _ => True) ?hr ?hp (fun _ hk => hk) trivial (Below.refl _ _) (Nat.le_refl _) (by simp) ?_; (case hd => rfl); (case hg => rfl); (case hr => first | (go_simp; done) | (go_simp; rfl)); (case hp => exact (Reps.one (show Kd.M (Kd.int .i64) _ _ _ 0 [.int .i64 0] from rfl) (Reps.none _ _))); intro v8 w8 ho hb hg_ hnew_; clear hg_ hnew_; have HO8 := Aside0.mk ho; have HB8 := Aside0.mk hb; clear ho hb)
  obtain ⟨A8, c8, hv8⟩ := Kd.R_slice HO8.out
  subst hv8
  have M1 := Aside0.mk (M0.out.pushR HB8.out HO8.out)
  have HHI0 := HB8.out.size
  obtain ⟨lo, hlo⟩ : ∃ lo : Nat, lo = ((w.alloc (.cells #[.int .i64 f.params, .int .i64 f.regs, .slice A2 f.caps.length c2, .slice A3 f.code.length c3, .slice A4 f.handlers.length c4] 73)).alloc (.cells #[.int .i64 0, .int .i64 0, .slice none 0 0, .slice none 0 0, .slice none 0 0] 73)).heap.size := ⟨_, rfl⟩
  have HLO := Aside0.mk (show w.heap.size + 2 ≤ lo by rw [hlo]; simp)
  rw [← hlo] at M1 HHI0
  have hz1 := aheadL_one l
  rw [← hz1] at M1
  clear hlo HO8 HB8 M0

  go_loopw [5, 14] (fun u v wx => ∃ (q hi : Nat) (X : Option Addr) (y : Nat), u = .slice X (aheadL l (q + 1)).length y ∧ v = .int .i64 q ∧ q ≤ 301 ∧ lo ≤ hi ∧ Aside0 (Mem w wx [Hold.val (Kd.slice 3 (Kd.int .i64)) lo hi (aheadL l (q + 1)) [.slice X (aheadL l (q + 1)).length y], Hold.box (w.heap.size + 1) #[.int .i64 0, .int .i64 0, .slice none 0 0, .slice none 0 0, .slice none 0 0] 73, Hold.box w.heap.size #[.int .i64 f.params, .int .i64 f.regs, .slice A2 f.caps.length c2, .slice A3 f.code.length c3, .slice A4 f.handlers.length c4] 73])) (fun _ v _ => 301 - (intOf v).toNat)
  case atStart => exact ⟨0, _, A8, c8, by rw [hz1], rfl, by omega, HHI0, M1⟩
  case round =>
  clear M1 HHI0 hz1
  obtain ⟨q, hi, X, y, rfl, rfl, hq, hhi, M2⟩ := hrel
  have HAL := Aside0.mk (aheadL_len l (q + 1))
  by_cases hlt : q < 301
  · have hle : (q : Int) < 301 := by omega
    have hq0 : (0 : Int) ≤ (q : Int) := by omega
    have hq1 : (q : Int) < ((aheadL l (q + 1)).length : Int) := by have := HAL.out; omega
    obtain ⟨ae, hae, k0⟩ := int_at (Kd.R_reads' (M2.out.row (.head _))).2.2 q (by have := HAL.out; omega)
    rw [el_aheadL l (by omega)] at k0
    cases hae
    have hab := ahead_le l q
    have HSC := Aside0.mk (aheadL_succ l (q + 1))
    have hal : (aheadL l (q + 1)).length ≤ 302 := by have := HAL.out; omega
    by_cases hql : q < l.length
    · have hql2 : (q : Int) < (l.length : Int) := by omega
      obtain ⟨a, ha, yb⟩ := bool_at HRL.out q hql
      cases ha
      have y2 := pw_cell_below M2.out.below yb
      have hin := ahead_in l hql
      clear yb
      rcases Bool.eq_false_or_eq_true (el false l q) with hv | hv
      · rw [hv] at y2
        rw [hv, if_pos rfl] at hin
        have HST := Aside0.mk (show aheadL l (q + 1 + 1) = aheadL l (q + 1) ++ [ahead l q + 1] from by rw [HSC.out, hin])
        clear hv hin
        have hlw : lo ≤ wr.heap.size := Nat.le_trans hhi (M2.out.fits _ (.head _)).2
        go_wp2_with (((with_reducible refine gate_builtin (b := .append) (xs := #[.tmp 33, .tmp 35]) rfl ?_); at_builtin; refine Aside0.out ?_))
        refine ⟨?_⟩
        refine Kd.R_append (Kd.int .i64) (w0 := wr) lo rfl (.tmp 33) (.tmp 35) 26 3 (.int .i64 0) 8 rfl Try.underlying26 info3 rfl (by decide) (by decide) (.slice (some ae) (aheadL l (q + 1)).length y) (aheadL l (q + 1)) (ahead l q + 1) [.int .i64 (ahead l q + 1)] (fun k => lo ≤ k) (fun _ => False) ?aV ?aX rfl (fun _ h => h.elim) (fun k hk => Nat.le_trans hlw hk) (Kd.R_mono (M2.out.row (.head _)) (fun k hk => hk.1)) (Below.refl _ _) hlw (by omega) ?_
        (case aV => first | rfl | (go_simp; done) | (go_simp; rfl))
        (case aX => first | rfl | (go_simp; done) | (go_simp; rfl))
        intro v9 w9 ho hb9 hg9 hat9; clear hg9 hat9
        rw [← HST.out] at ho
        obtain ⟨A9, y9, hv9⟩ := Kd.R_slice ho; subst hv9
        have M9 := Aside0.mk (Mem.grow M2.out (fun h hh => by have hL := HLO.out; simp only [List.mem_cons, List.not_mem_nil, or_false] at hh; rcases hh with rfl | rfl <;> (simp only [Hold.box]; omega)) hb9 ho)
        have hh9 : lo ≤ w9.heap.size := Nat.le_trans hlw hb9.size
        clear ho hb9 M2
        go_wp2
        go_roundw
        case measure => simp [intOf]; omega
        case rel => (repeat apply Exists.intro); exact ⟨⟨q + 1, w9.heap.size, A9, y9, rfl, by go_num, by omega, hh9, M9⟩, rfl⟩
      · rw [hv] at y2
        rw [hv, if_neg (by decide), Int.add_zero] at hin
        have HST := Aside0.mk (show aheadL l (q + 1 + 1) = aheadL l (q + 1) ++ [ahead l q] from by rw [HSC.out, hin])
        clear hv hin
        have hlw : lo ≤ wr.heap.size := Nat.le_trans hhi (M2.out.fits _ (.head _)).2
        go_wp2_with (((with_reducible refine gate_builtin (b := .append) (xs := #[.tmp 33, .tmp 35]) rfl ?_); at_builtin; refine Aside0.out ?_))
        refine ⟨?_⟩
        refine Kd.R_append (Kd.int .i64) (w0 := wr) lo rfl (.tmp 33) (.tmp 35) 26 3 (.int .i64 0) 8 rfl Try.underlying26 info3 rfl (by decide) (by decide) (.slice (some ae) (aheadL l (q + 1)).length y) (aheadL l (q + 1)) (ahead l q) [.int .i64 (ahead l q)] (fun k => lo ≤ k) (fun _ => False) ?aV ?aX rfl (fun _ h => h.elim) (fun k hk => Nat.le_trans hlw hk) (Kd.R_mono (M2.out.row (.head _)) (fun k hk => hk.1)) (Below.refl _ _) hlw (by omega) ?_
        (case aV => first | rfl | (go_simp; done) | (go_simp; rfl))
        (case aX => first | rfl | (go_simp; done) | (go_simp; rfl))
        intro v9 w9 ho hb9 hg9 hat9; clear hg9 hat9
        rw [← HST.out] at ho
        obtain ⟨A9, y9, hv9⟩ := Kd.R_slice ho; subst hv9
        have M9 := Aside0.mk (Mem.grow M2.out (fun h hh => by have hL := HLO.out; simp only [List.mem_cons, List.not_mem_nil, or_false] at hh; rcases hh with rfl | rfl <;> (simp only [Hold.box]; omega)) hb9 ho)
        have hh9 : lo ≤ w9.heap.size := Nat.le_trans hlw hb9.size
        clear ho hb9 M2
        go_wp2
        go_roundw
        case measure => simp [intOf]; omega
        case rel => (repeat apply Exists.intro); exact ⟨⟨q + 1, w9.heap.size, A9, y9, rfl, by go_num, by omega, hh9, M9⟩, rfl⟩
    · have hql2 : ¬ (q : Int) < (l.length : Int) := by omega
      have HST := Aside0.mk (show aheadL l (q + 1 + 1) = aheadL l (q + 1) ++ [ahead l q] from by rw [HSC.out, ahead_out l hql])
      have hlw : lo ≤ wr.heap.size := Nat.le_trans hhi (M2.out.fits _ (.head _)).2
      go_wp2_with (((with_reducible refine gate_builtin (b := .append) (xs := #[.tmp 33, .tmp 35]) rfl ?_); at_builtin; refine Aside0.out ?_))
      refine ⟨?_⟩
      refine Kd.R_append (Kd.int .i64) (w0 := wr) lo rfl (.tmp 33) (.tmp 35) 26 3 (.int .i64 0) 8 rfl Try.underlying26 info3 rfl (by decide) (by decide) (.slice (some ae) (aheadL l (q + 1)).length y) (aheadL l (q + 1)) (ahead l q) [.int .i64 (ahead l q)] (fun k => lo ≤ k) (fun _ => False) ?aV ?aX rfl (fun _ h => h.elim) (fun k hk => Nat.le_trans hlw hk) (Kd.R_mono (M2.out.row (.head _)) (fun k hk => hk.1)) (Below.refl _ _) hlw (by omega) ?_
      (case aV => first | rfl | (go_simp; done) | (go_simp; rfl))
      (case aX => first | rfl | (go_simp; done) | (go_simp; rfl))
      intro v9 w9 ho hb9 hg9 hat9; clear hg9 hat9
      rw [← HST.out] at ho
      obtain ⟨A9, y9, hv9⟩ := Kd.R_slice ho; subst hv9
      have M9 := Aside0.mk (Mem.grow M2.out (fun h hh => by have hL := HLO.out; simp only [List.mem_cons, List.not_mem_nil, or_false] at hh; rcases hh with rfl | rfl <;> (simp only [Hold.box]; omega)) hb9 ho)
      have hh9 : lo ≤ w9.heap.size := Nat.le_trans hlw hb9.size
      clear ho hb9 M2
      go_wp2
      go_roundw
      case measure => simp [intOf]; omega
      case rel => (repeat apply Exists.intro); exact ⟨⟨q + 1, w9.heap.size, A9, y9, rfl, by go_num, by omega, hh9, M9⟩, rfl⟩
  have hle : ¬ (q : Int) < 301 := by omega
  obtain rfl : q = 301 := by omega
  clear hlt hq hle
  obtain ⟨ae, hae, _⟩ := int_at (Kd.R_reads' (M2.out.row (.head _))).2.2 0 (by have := HAL.out; omega)
  cases hae
  have HA2 := Aside0.mk (show (aheadL l (301 + 1)).length = 302 from aheadL_len l 302)
  go_upto_region 10 with fail
  obtain ⟨L, HL, ML⟩ := Mem.hide M2
  have EB := Aside0.mk (show Hold.box w.heap.size #[.int .i64 f.params, .int .i64 f.regs, .slice A2 f.caps.length c2, .slice A3 f.code.length c3, .slice A4 f.handlers.length c4] 73 ∈ L from HL.out ▸ (.tail _ (.tail _ (.head _))))
  clear M2
  go_cut [8] (fun sl wx => ∃ (g lo2 hi2 : Nat) (X : Option Addr) (Y : Nat) (W : World), sl = .pointer (some ⟨g, 0, none⟩) ∧ Aside0 (W = wx) ∧ Aside0 (Mem w W (Hold.box g #[.int .i64 f.params, .int .i64 f.regs, .slice X f.caps.length Y, .slice none 0 0, .slice none 0 0] 73 :: Hold.val (Kd.slice 105 kCap) lo2 hi2 (f.caps) [.slice X (f.caps).length Y] :: L)))
  case first =>
    refine sz 10 (fun W => W.cell? ⟨w.heap.size, 0, none⟩ = some (.int .i64 f.params) ∧ W.cell? ⟨w.heap.size, 1, none⟩ = some (.int .i64 f.regs) ∧ W.cell? ⟨w.heap.size, 2, none⟩ = some (.slice A2 f.caps.length c2)) [9] prI.tab10 prI.bits10 ⟨(((ML.out.drew)).box EB.out 0).trans rfl, (((ML.out.drew)).box EB.out 1).trans rfl, (((ML.out.drew)).box EB.out 2).trans rfl⟩ (fun HT_ HW_ hHeld => ?_)
    have MD := Aside0.mk ML.out.drew
    generalize wr.drew = wd at MD hHeld ⊢
    refine pz 0 38 ?_; refine pz 2 40 ?_; refine pz 4 42 ?_; refine tz 1 39 ?_; refine tz 3 41 ?_; refine tz 5 43 ?_
    refine twz 6 8 (some 44) (some 8) (fun K hK => ?_) (fun K hK => ?_)
    · skip
      refine Kd.R_append_rows_step kCap (Rr := kCap.K wd) (w0 := wd) wd.heap.size (by rfl) (.const (.slice none 0 0)) (.tmp 43) 69 105 (.agg #[.bool false, .int .i64 0]) 16 rfl Try.underlying69 (by kernel_rfl) rfl (by decide) (by omega) (.slice none 0 0) [] f.caps _ _ _ (fun _ => True) (fun _ => False) rfl rfl ?aO ?aR ?aM (fun _ h => h.elim) ?aF ?aB ?aS ?aL ?_
      (case aR => exact Kd.C_below G2.out MD.out.below)
      (case aM => intro _ _ h; have e := kCap_open h; subst e; exact kCap_mkM _ _ _ _)
      (case aO => exact Kd.R_nil _ _ _ _ _)
      (case aF => exact fun _ _ => trivial)
      (case aB => exact Below.refl _ _)
      (case aS => exact Nat.le_refl _)
      (case aL => simp; omega)
      intro v6 w21 ho hb hg_ hat_; clear hg_ hat_
      rw [List.nil_append] at ho
      obtain ⟨A6, y6, rfl⟩ := Kd.R_slice ho
      have M21 := Aside0.mk (MD.out.pushR hb ho); clear ho hb
      refine hK.out _ _ ⟨(((M21.out).drop).box EB.out 0).trans rfl, (((M21.out).drop).box EB.out 1).trans rfl, (((M21.out).drop).box EB.out 2).trans rfl⟩ (fun hHeld => ?_); clear hK K; refine kz (some 44) ?_
      refine pz 7 45 ?_
      refine ez 8 (some 8) (fun K hK => ?_)
      refine box_step ?hg (N := 8) ?hd (cs := #[.int .i64 0, .int .i64 0, .slice none 0 0, .slice none 0 0, .slice none 0 0]) (t := 73) ?hr ?_; (case hd => rfl); (case hg => rfl); (case hr => first | (go_simp; done) | (go_simp; rfl))
      intro g8 hg w22 hbx hbb
      have M22 := Aside0.mk (Mem.boxed M21.out hg hbx hbb); clear hg hbx hbb
      refine hK.out _ _ ⟨(((M22.out).drop.drop).box EB.out 0).trans rfl, (((M22.out).drop.drop).box EB.out 1).trans rfl, (((M22.out).drop.drop).box EB.out 2).trans rfl⟩ (fun hHeld => ?_); clear hK K; refine kz (some 8) ?_
      refine lz 9 none (fun K hK => ?_)
      have b0 := M22.out.box (.head _); have b1 := M22.out.free (.head _)
      refine skip_ (w1 := ?_) (by rfl) rfl ?_ ?_
      rotate_left
      · go_simp
        rfl
      clear b0 b1
      refine hK.out _ _ ?_; clear hK K
      refine dz ?_
      clear hHeld
      have MZ := Aside0.mk (Mem.set (A := []) (Mem.set (A := []) (Mem.set (A := []) (Mem.set (A := []) (Mem.set (A := []) M22.out 0 (.int .i64 f.params) rfl) 1 (.int .i64 f.regs) rfl) 2 (.slice A6 f.caps.length y6) rfl) 3 (.slice none 0 0) rfl) 4 (.slice none 0 0) rfl)
      try go_wp2_with fail
      go_meet
      exact ⟨_, _, _, _, _, _, rfl, ⟨rfl⟩, MZ⟩
    · skip
      refine box_step ?hg (N := 8) ?hd (cs := #[.int .i64 0, .int .i64 0, .slice none 0 0, .slice none 0 0, .slice none 0 0]) (t := 73) ?hr ?_; (case hd => rfl); (case hg => rfl); (case hr => first | (go_simp; done) | (go_simp; rfl))
      intro g8 hg w24 hbx hbb
      have M24 := Aside0.mk (Mem.boxed MD.out hg hbx hbb); clear hg hbx hbb
      refine hK.out _ _ ⟨(((M24.out).drop).box EB.out 0).trans rfl, (((M24.out).drop).box EB.out 1).trans rfl, (((M24.out).drop).box EB.out 2).trans rfl⟩ (fun hHeld => ?_); clear hK K; refine kz (some 8) ?_
      refine ez 6 (some 44) (fun K hK => ?_)
      refine Kd.R_append_rows_step kCap (Rr := kCap.K w24) (w0 := w24) w24.heap.size (by rfl) (.const (.slice none 0 0)) (.tmp 43) 69 105 (.agg #[.bool false, .int .i64 0]) 16 rfl Try.underlying69 (by kernel_rfl) rfl (by decide) (by omega) (.slice none 0 0) [] f.caps _ _ _ (fun _ => True) (fun _ => False) rfl rfl ?aO ?aR ?aM (fun _ h => h.elim) ?aF ?aB ?aS ?aL ?_
      (case aR => exact Kd.C_below G2.out M24.out.below)
      (case aM => intro _ _ h; have e := kCap_open h; subst e; exact kCap_mkM _ _ _ _)
      (case aO => exact Kd.R_nil _ _ _ _ _)
      (case aF => exact fun _ _ => trivial)
      (case aB => exact Below.refl _ _)
      (case aS => exact Nat.le_refl _)
      (case aL => simp; omega)
      intro v6 w25 ho hb hg_ hat_; clear hg_ hat_
      rw [List.nil_append] at ho
      obtain ⟨A6, y6, rfl⟩ := Kd.R_slice ho
      have M25 := Aside0.mk (M24.out.pushR hb ho); clear ho hb
      refine hK.out _ _ ⟨(((M25.out).drop.drop).box EB.out 0).trans rfl, (((M25.out).drop.drop).box EB.out 1).trans rfl, (((M25.out).drop.drop).box EB.out 2).trans rfl⟩ (fun hHeld => ?_); clear hK K; refine kz (some 44) ?_
      refine pz 7 45 ?_
      refine lz 9 none (fun K hK => ?_)
      have b0 := M25.out.box (.tail _ (.head _)); have b1 := M25.out.free (.tail _ (.head _))
      refine skip_ (w1 := ?_) (by rfl) rfl ?_ ?_
      rotate_left
      · go_simp
        rfl
      clear b0 b1
      refine hK.out _ _ ?_; clear hK K
      refine dz ?_
      clear hHeld
      have MZ := Aside0.mk (Mem.set (A := [_]) (Mem.set (A := [_]) (Mem.set (A := [_]) (Mem.set (A := [_]) (Mem.set (A := [_]) M25.out 0 (.int .i64 f.params) rfl) 1 (.int .i64 f.regs) rfl) 2 (.slice A6 f.caps.length y6) rfl) 3 (.slice none 0 0) rfl) 4 (.slice none 0 0) rfl).swap2
      try go_wp2_with fail
      go_meet
      exact ⟨_, _, _, _, _, _, rfl, ⟨rfl⟩, MZ⟩
  case rest =>
  clear ML
  obtain ⟨g, lo2, hi2, X2, Y2, W2, rfl, HW, M3⟩ := hcut
  have hw3 := HW.out; subst hw3; clear HW
  have hl := HL.out; subst hl; clear HL EB
  have M4 := Aside0.mk (M3.out.pushR (Below.refl _ _) (Kd.R_nil kIns 76 W2 W2.heap.size (fun _ => True)))
  have HF3 := Aside0.mk (show (w.heap.size + 2 ≤ W2.heap.size ∧ hi ≤ W2.heap.size) ∧ (hi2 ≤ W2.heap.size ∧ g + 1 ≤ W2.heap.size) from ⟨⟨(M3.out.fits _ (.tail _ (.tail _ (.tail _ (.head _))))).2, (M3.out.fits _ (.tail _ (.tail _ (.head _)))).2⟩, (M3.out.fits _ (.tail _ (.head _))).2, (M3.out.fits _ (.head _)).2⟩)
  obtain ⟨lo3, hlo3⟩ : ∃ lo3 : Nat, lo3 = W2.heap.size := ⟨_, rfl⟩
  rw [← hlo3] at M4 HF3
  clear hlo3 M3
  have z0 := M4.out.box (.tail _ (.tail _ (.tail _ (.tail _ (.tail _ (.head _))))))
  go_upto_region 12 with fail
  clear z0
  go_loopw [49] (fun v wx => ∃ (q hi3 : Nat) (X : Option Addr) (y3 : Nat), v = .int .i64 q ∧ q ≤ f.code.length ∧ lo3 ≤ hi3 ∧ Aside0 (Mem w wx [Hold.val (Kd.slice 76 kIns) lo3 hi3 (pCodeTo l f.code (q)) [.slice X (pCodeTo l f.code (q)).length y3], Hold.box g #[.int .i64 f.params, .int .i64 f.regs, .slice X2 f.caps.length Y2, .slice X (pCodeTo l f.code (q)).length y3, .slice none 0 0] 73, Hold.val (Kd.slice 105 kCap) lo2 hi2 (f.caps) [.slice X2 (f.caps).length Y2], Hold.val (Kd.slice 3 (Kd.int .i64)) lo hi (aheadL l (301 + 1)) [.slice (some ae) (aheadL l (301 + 1)).length y], Hold.box (w.heap.size + 1) #[.int .i64 0, .int .i64 0, .slice none 0 0, .slice none 0 0, .slice none 0 0] 73, Hold.box w.heap.size #[.int .i64 f.params, .int .i64 f.regs, .slice A2 f.caps.length c2, .slice A3 f.code.length c3, .slice A4 f.handlers.length c4] 73])) (fun v _ => f.code.length - (intOf v).toNat)
  case atStart => exact ⟨0, lo3, none, 0, rfl, by omega, Nat.le_refl _, M4⟩
  case round =>
  clear M4
  obtain ⟨q, hi3, X, y3, rfl, hq, hhi3, M5⟩ := hrel
  have hpl := pCodeTo_len l f.code q
  by_cases hlt : q < f.code.length
  · have hle : (q : Int) < (f.code.length : Int) := by omega
    have hq0 : (0 : Int) ≤ (q : Int) := by omega
    obtain ⟨ka, hka, kK, k0, k1, k2⟩ := Ins_at G3.out q hlt
    cases hka
    obtain ⟨i, hie⟩ : ∃ i, i = el zIns f.code q := ⟨_, rfl⟩
    rw [← hie] at k0 k1 k2
    have HIE := Aside0.mk hie; have HIC := Aside0.mk (HC.out i (by rw [hie]; exact el_mem zIns hlt))
    have y0 := pw_cell_below M5.out.below k0; have y1 := pw_cell_below M5.out.below k1; have y2 := pw_cell_below M5.out.below k2
    clear kK k0 k1 k2 hie
    obtain ⟨ra, hra, yb⟩ := bool_at HRL.out q (by have := HLL.out; omega)
    cases hra
    have YB := Aside0.mk yb; clear yb
    have hql : (q : Int) < (l.length : Int) := by have := HLL.out; omega
    obtain ⟨b10, hb10⟩ : ∃ b : Nat, b = wr.heap.size := ⟨_, rfl⟩
    have M6 := Aside0.mk (M5.out.allocAt hb10 #[.int .i64 i.op, .int .i64 i.a, .int .i64 i.b] 76)
    go_upto_region 14 with fail
    rw [← hb10]
    clear y0 y1 y2
    generalize hwa : wr.alloc (.cells #[.int .i64 i.op, .int .i64 i.a, .int .i64 i.b] 76) = wa at M6 ⊢
    clear hwa hb10
    have yb := pw_cell_below M6.out.below YB.out
    rcases Bool.eq_false_or_eq_true (el false l q) with hv | hv
    rotate_left
    · rw [hv] at yb
      have HST := Aside0.mk (show pCodeTo l f.code (q + 1) = pCodeTo l f.code q from by
        show (if el false l q = true then _ else _) = _
        rw [if_neg (by rw [hv]; decide)])
      clear hv
      go_wp2
      go_roundw
      case measure => simp [intOf]; omega
      case rel => exact ⟨q + 1, hi3, X, y3, by go_num, by omega, hhi3, by rw [HST.out]; exact ⟨M6.out.drop⟩⟩
    rw [hv] at yb
    have HST0 := Aside0.mk (show pCodeTo l f.code (q + 1) = pCodeTo l f.code q ++ [pIns l i] from by
      show (if el false l q = true then _ else _) = _
      rw [if_pos hv, ← HIE.out])
    clear hv
    have z10 := M6.out.box (.head _); have f10 := M6.out.free (.head _)
    go_upto_region 15 with fail
    clear yb
    by_cases hop : i.op = 12 ∨ i.op = 13 ∨ i.op = 14
    · obtain ⟨na, hna⟩ : ∃ na : Nat, i.a = na := ⟨i.a.toNat, by have := HIC.out.2.1; omega⟩
      have HST := Aside0.mk (show pCodeTo l f.code (q + 1) = pCodeTo l f.code q ++ [⟨i.op, ahead l na, i.b⟩] from by
        rw [HST0.out]
        unfold pIns
        rw [if_pos (by unfold isJump; exact decide_eq_true hop), hna, Int.toNat_natCast])
      have hn3 : na ≤ 300 := by have := HIC.out.2.1; omega
      have hna0 : (0 : Int) ≤ (na : Int) := by omega
      have hna1 : (na : Int) < ((aheadL l (301 + 1)).length : Int) := by have := HA2.out; omega
      obtain ⟨ae2, hae2, ka2⟩ := int_at (Kd.R_reads' (M6.out.row (.tail _ (.tail _ (.tail _ (.tail _ (.head _))))))).2.2 na (by have := HA2.out; omega)
      injection hae2 with hae2
      subst hae2
      rw [el_aheadL l (by omega)] at ka2
      rw [hna] at z10 M6
      have M7 := Aside0.mk (Mem.set (A := []) M6.out 1 (.int .i64 (ahead l na)) rfl)
      rcases hop with hop | hop | hop <;> (
        have q1 := congrArg (fun z : Int => z == 12) hop; have q2 := congrArg (fun z : Int => z == 14) hop; have q3 := congrArg (fun z : Int => z == 13) hop
        simp only [Int.reduceBEq] at q1 q2 q3
        clear hop hna
        go_upto_region 17 with fail
        clear z10 f10 ka2 M6
        generalize wa.setCell ⟨b10, 1, none⟩ (.int .i64 (ahead l na)) = wk at M7 ⊢
        have zg := M7.out.box (.tail _ (.tail _ (.head _))); have fg := M7.out.free (.tail _ (.tail _ (.head _))); have z11 := M7.out.box (.head _)
        have M8 := Aside0.mk M7.out.drop; clear M7
        have hhi := hhi3
        have hlw : lo3 ≤ wk.heap.size := Nat.le_trans hhi (M8.out.fits _ (.head _)).2
        go_wp2_with (((with_reducible refine gate_builtin (b := .append) (xs := #[.tmp 79, .tmp 81]) rfl ?_); at_builtin; refine Aside0.out ?_))
        refine ⟨?_⟩
        refine Kd.R_append kIns (w0 := wk) lo3 rfl (.tmp 79) (.tmp 81) 70 76 (.agg #[.int .i64 0, .int .i64 0, .int .i64 0]) 24 rfl Try.underlying70 (by kernel_rfl) rfl (by decide) (by decide) (.slice X (pCodeTo l f.code q).length y3) (pCodeTo l f.code q) ((⟨i.op, ahead l na, i.b⟩ : Ins)) [.int .i64 i.op, .int .i64 (ahead l na), .int .i64 i.b] (fun k => lo3 ≤ k) (fun _ => False) ?aV ?aX (kIns_mkM _ _ _ _) (fun _ h => h.elim) (fun k hk => Nat.le_trans hlw hk) (Kd.R_mono (M8.out.row (.head _)) (fun k hk => hk.1)) (Below.refl _ _) hlw (by omega) ?_
        (case aV => first | rfl | (go_simp; done) | (go_simp; rfl))
        (case aX => first | rfl | (go_simp; done) | (go_simp; rfl))
        intro v9 w9 ho hb9 hg9 hat9; clear hg9 hat9
        rw [← HST.out] at ho
        obtain ⟨A9, y9, hv9⟩ := Kd.R_slice ho; subst hv9
        have M9 := Aside0.mk (Mem.grow M8.out (fun h hh => by have hF := HF3.out; simp only [List.mem_cons, List.not_mem_nil, or_false] at hh; rcases hh with rfl | rfl | rfl | rfl | rfl <;> (simp only [Hold.box, Hold.val]; omega)) hb9 ho)
        have hh9 : lo3 ≤ w9.heap.size := Nat.le_trans hlw hb9.size
        clear ho hb9 M8
        clear zg fg z11
        have zg := M9.out.box (.tail _ (.head _)); have fg := M9.out.free (.tail _ (.head _))
        have M10 := Aside0.mk (Mem.set (A := [_]) M9.out 3 (.slice A9 (pCodeTo l f.code (q + 1)).length y9) rfl); clear M9
        go_wp2
        go_roundw
        (case measure => simp [intOf]; omega)
        (case rel => first | exact ⟨q + 1, w9.heap.size, A9, y9, by go_num, by omega, hh9, M10⟩ | ((repeat apply Exists.intro); exact ⟨⟨q + 1, w9.heap.size, A9, y9, by go_num, by omega, hh9, M10⟩, rfl⟩)))
    · have HST := Aside0.mk (show pCodeTo l f.code (q + 1) = pCodeTo l f.code q ++ [⟨i.op, i.a, i.b⟩] from by
        rw [HST0.out]
        unfold pIns
        rw [if_neg (by unfold isJump; rw [decide_eq_false hop]; decide)])
      have q1 : (i.op == 12) = false := by simp; omega
      have q2 : (i.op == 14) = false := by simp; omega
      have q3 : (i.op == 13) = false := by simp; omega
      have M7 := M6
      clear hop
      go_upto_region 17 with fail
      clear z10 f10 M6
      have zg := M7.out.box (.tail _ (.tail _ (.head _))); have fg := M7.out.free (.tail _ (.tail _ (.head _))); have z11 := M7.out.box (.head _)
      have M8 := Aside0.mk M7.out.drop; clear M7
      have hhi := hhi3
      have hlw : lo3 ≤ wa.heap.size := Nat.le_trans hhi (M8.out.fits _ (.head _)).2
      go_wp2_with (((with_reducible refine gate_builtin (b := .append) (xs := #[.tmp 79, .tmp 81]) rfl ?_); at_builtin; refine Aside0.out ?_))
      refine ⟨?_⟩
      refine Kd.R_append kIns (w0 := wa) lo3 rfl (.tmp 79) (.tmp 81) 70 76 (.agg #[.int .i64 0, .int .i64 0, .int .i64 0]) 24 rfl Try.underlying70 (by kernel_rfl) rfl (by decide) (by decide) (.slice X (pCodeTo l f.code q).length y3) (pCodeTo l f.code q) ((⟨i.op, i.a, i.b⟩ : Ins)) [.int .i64 i.op, .int .i64 i.a, .int .i64 i.b] (fun k => lo3 ≤ k) (fun _ => False) ?aV ?aX (kIns_mkM _ _ _ _) (fun _ h => h.elim) (fun k hk => Nat.le_trans hlw hk) (Kd.R_mono (M8.out.row (.head _)) (fun k hk => hk.1)) (Below.refl _ _) hlw (by omega) ?_
      (case aV => first | rfl | (go_simp; done) | (go_simp; rfl))
      (case aX => first | rfl | (go_simp; done) | (go_simp; rfl))
      intro v9 w9 ho hb9 hg9 hat9; clear hg9 hat9
      rw [← HST.out] at ho
      obtain ⟨A9, y9, hv9⟩ := Kd.R_slice ho; subst hv9
      have M9 := Aside0.mk (Mem.grow M8.out (fun h hh => by have hF := HF3.out; simp only [List.mem_cons, List.not_mem_nil, or_false] at hh; rcases hh with rfl | rfl | rfl | rfl | rfl <;> (simp only [Hold.box, Hold.val]; omega)) hb9 ho)
      have hh9 : lo3 ≤ w9.heap.size := Nat.le_trans hlw hb9.size
      clear ho hb9 M8
      clear zg fg z11
      have zg := M9.out.box (.tail _ (.head _)); have fg := M9.out.free (.tail _ (.head _))
      have M10 := Aside0.mk (Mem.set (A := [_]) M9.out 3 (.slice A9 (pCodeTo l f.code (q + 1)).length y9) rfl); clear M9
      go_wp2
      go_roundw
      (case measure => simp [intOf]; omega)
      (case rel => first | exact ⟨q + 1, w9.heap.size, A9, y9, by go_num, by omega, hh9, M10⟩ | ((repeat apply Exists.intro); exact ⟨⟨q + 1, w9.heap.size, A9, y9, by go_num, by omega, hh9, M10⟩, rfl⟩))
  have hle : ¬ (q : Int) < (f.code.length : Int) := by omega
  obtain rfl : q = f.code.length := by omega
  clear hlt hq hle hpl
  have M6 := Aside0.mk (M5.out.pushR (Below.refl _ _) (Kd.R_nil kHandler 107 wr wr.heap.size (fun _ => True)))
  have HF4 := Aside0.mk (show hi3 ≤ wr.heap.size ∧ (w.heap.size + 2 ≤ wr.heap.size ∧ hi ≤ wr.heap.size) ∧ (hi2 ≤ wr.heap.size ∧ g + 1 ≤ wr.heap.size) from ⟨(M5.out.fits _ (.head _)).2, ⟨(M5.out.fits _ (.tail _ (.tail _ (.tail _ (.tail _ (.head _)))))).2, (M5.out.fits _ (.tail _ (.tail _ (.tail _ (.head _))))).2⟩, (M5.out.fits _ (.tail _ (.tail _ (.head _)))).2, (M5.out.fits _ (.tail _ (.head _))).2⟩)
  obtain ⟨lo4, hlo4⟩ : ∃ lo4 : Nat, lo4 = wr.heap.size := ⟨_, rfl⟩
  rw [← hlo4] at M6 HF4
  clear hlo4 M5
  have z0 := M6.out.box (.tail _ (.tail _ (.tail _ (.tail _ (.tail _ (.tail _ (.head _)))))))
  go_upto_region 20 with fail
  clear z0
  go_loopw [88] (fun v wx => ∃ (q hi4 : Nat) (X4 : Option Addr) (y4 : Nat), v = .int .i64 q ∧ q ≤ f.handlers.length ∧ lo4 ≤ hi4 ∧ Aside0 (Mem w wx [Hold.val (Kd.slice 107 kHandler) lo4 hi4 (pHandsTo l f.handlers (q)) [.slice X4 (pHandsTo l f.handlers (q)).length y4], Hold.val (Kd.slice 76 kIns) lo3 hi3 (pCodeTo l f.code f.code.length) [.slice X (pCodeTo l f.code f.code.length).length y3], Hold.box g #[.int .i64 f.params, .int .i64 f.regs, .slice X2 f.caps.length Y2, .slice X (pCodeTo l f.code f.code.length).length y3, .slice X4 (pHandsTo l f.handlers (q)).length y4] 73, Hold.val (Kd.slice 105 kCap) lo2 hi2 (f.caps) [.slice X2 (f.caps).length Y2], Hold.val (Kd.slice 3 (Kd.int .i64)) lo hi (aheadL l (301 + 1)) [.slice (some ae) (aheadL l (301 + 1)).length y], Hold.box (w.heap.size + 1) #[.int .i64 0, .int .i64 0, .slice none 0 0, .slice none 0 0, .slice none 0 0] 73, Hold.box w.heap.size #[.int .i64 f.params, .int .i64 f.regs, .slice A2 f.caps.length c2, .slice A3 f.code.length c3, .slice A4 f.handlers.length c4] 73])) (fun v _ => f.handlers.length - (intOf v).toNat)
  case atStart => exact ⟨0, lo4, none, 0, rfl, by omega, Nat.le_refl _, M6⟩
  case round =>
  clear M6
  obtain ⟨q, hi4, X4, y4, rfl, hq, hhi4, M7⟩ := hrel
  have hpl := pHandsTo_len l f.handlers q
  by_cases hlt : q < f.handlers.length
  rotate_left
  · have hle : ¬ (q : Int) < (f.handlers.length : Int) := by omega
    obtain rfl : q = f.handlers.length := by omega
    have zg := M7.out.box (.tail _ (.tail _ (.head _))); have z1 := M7.out.box (.tail _ (.tail _ (.tail _ (.tail _ (.tail _ (.head _)))))); have f1 := M7.out.free (.tail _ (.tail _ (.tail _ (.tail _ (.tail _ (.head _))))))
    have M8 := Aside0.mk (Mem.set (A := [_, _, _, _, _]) (Mem.set (A := [_, _, _, _, _]) (Mem.set (A := [_, _, _, _, _]) (Mem.set (A := [_, _, _, _, _]) (Mem.set (A := [_, _, _, _, _]) M7.out 0 (.int .i64 f.params) rfl) 1 (.int .i64 f.regs) rfl) 2 (.slice X2 f.caps.length Y2) rfl) 3 (.slice X (pCodeTo l f.code f.code.length).length y3) rfl) 4 (.slice X4 (pHandsTo l f.handlers f.handlers.length).length y4) rfl)
    go_wp2
    refine bodyPost_ret (results_cell_row rfl _ _ (w.heap.size + 1) 73 #[.int .i64 f.params, .int .i64 f.regs, .slice X2 f.caps.length Y2, .slice X (pCodeTo l f.code f.code.length).length y3, .slice X4 (pHandsTo l f.handlers f.handlers.length).length y4] (0, 0) _ rfl (M8.out.blk (.tail _ (.tail _ (.tail _ (.tail _ (.tail _ (.head _))))))) hu rfl (by kernel_rfl)) rfl ?_
    exact ⟨_, rfl, kFuncI_mkM _ _ _ (pFunc l f) (M8.out.rowT (.tail _ (.tail _ (.tail _ (.head _))))) (M8.out.rowT (.tail _ (.head _))) (M8.out.rowT (.head _)), M8.out.below⟩
  have hle : (q : Int) < (f.handlers.length : Int) := by omega
  have hq0 : (0 : Int) ≤ (q : Int) := by omega
  obtain ⟨ha, hha, hK, k0, k1, k2⟩ := Handler_at G4.out q hlt
  cases hha
  obtain ⟨h, hhe⟩ : ∃ h, h = el zHandler f.handlers q := ⟨_, rfl⟩
  rw [← hhe] at k0 k1 k2
  have HHE := Aside0.mk hhe; have HHC := Aside0.mk (HH.out h (by rw [hhe]; exact el_mem zHandler hlt))
  have y0 := pw_cell_below M7.out.below k0; have y1 := pw_cell_below M7.out.below k1; have y2 := pw_cell_below M7.out.below k2
  clear hK k0 k1 k2 hhe
  obtain ⟨b12, hb12⟩ : ∃ b : Nat, b = wr.heap.size := ⟨_, rfl⟩
  have M8 := Aside0.mk (M7.out.allocAt hb12 #[.int .i64 h.from_, .int .i64 h.to_, .int .i64 h.target] 107)
  go_upto_region 22 with fail
  rw [← hb12]
  clear y0 y1 y2
  generalize hwa : wr.alloc (.cells #[.int .i64 h.from_, .int .i64 h.to_, .int .i64 h.target] 107) = wa at M8 ⊢
  clear hwa hb12
  have z12 := M8.out.box (.head _)
  have HNO := Aside0.mk (fun (hb : pHandB l h = false) => show pHandsTo l f.handlers (q + 1) = pHandsTo l f.handlers q from by
    show (if pHandB l (el zHandler f.handlers q) = true then _ else _) = _
    rw [← HHE.out, if_neg (by rw [hb]; decide)])
  by_cases htl : h.target < (l.length : Int)
  rotate_left
  · have HST := Aside0.mk (HNO.out (by unfold pHandB; rw [decide_eq_false htl]; rfl))
    go_wp2
    go_roundw
    case measure => simp [intOf]; omega
    case rel => exact ⟨q + 1, hi4, X4, y4, by go_num, by omega, hhi4, by rw [HST.out]; exact ⟨M8.out.drop⟩⟩
  obtain ⟨nt, hnt⟩ : ∃ nt : Nat, h.target = nt := ⟨h.target.toNat, by have := HHC.out; omega⟩
  obtain ⟨ra, hra, yb0⟩ := bool_at HRL.out nt (by omega)
  cases hra
  rw [hnt] at M8 z12 htl
  have hnt0 : (0 : Int) ≤ (nt : Int) := by omega
  have yb := pw_cell_below M8.out.below yb0
  have HNT := Aside0.mk hnt
  clear yb0 hnt
  rcases Bool.eq_false_or_eq_true (el false l nt) with hv | hv
  rotate_left
  · rw [hv] at yb
    have HST := Aside0.mk (HNO.out (by unfold pHandB; rw [HNT.out, Int.toNat_natCast, hv]; simp))
    clear hv
    go_wp2
    go_roundw
    case measure => simp [intOf]; omega
    case rel => exact ⟨q + 1, hi4, X4, y4, by go_num, by omega, hhi4, by rw [HST.out]; exact ⟨M8.out.drop⟩⟩
  rw [hv] at yb
  obtain ⟨nf, hnf⟩ : ∃ nf : Nat, h.from_ = nf := ⟨h.from_.toNat, by have := HHC.out; omega⟩
  obtain ⟨no, hno⟩ : ∃ no : Nat, h.to_ = no := ⟨h.to_.toNat, by have := HHC.out; omega⟩
  have hb3 : nf ≤ 300 ∧ no ≤ 300 ∧ nt ≤ 300 := by have := HHC.out; have := HNT.out; omega
  have HST := Aside0.mk (show pHandsTo l f.handlers (q + 1) = pHandsTo l f.handlers q ++ [⟨ahead l nf, ahead l no, ahead l nt⟩] from by
    show (if pHandB l (el zHandler f.handlers q) = true then _ else _) = _
    rw [← HHE.out, if_pos (by unfold pHandB; rw [HNT.out, Int.toNat_natCast, hv, decide_eq_true htl]; rfl)]
    unfold pHand
    rw [hnf, hno, HNT.out, Int.toNat_natCast, Int.toNat_natCast, Int.toNat_natCast])
  rw [hnf, hno] at M8 z12
  clear hv hnf hno HNO
  have p0 : (0 : Int) ≤ (nf : Int) ∧ (0 : Int) ≤ (no : Int) := by omega
  have p1 : (nf : Int) < ((aheadL l (301 + 1)).length : Int) ∧ (no : Int) < ((aheadL l (301 + 1)).length : Int) ∧ (nt : Int) < ((aheadL l (301 + 1)).length : Int) := by have := HA2.out; omega
  obtain ⟨p2, p3⟩ := p0
  obtain ⟨p4, p5, p6⟩ := p1
  have HAE := Aside0.mk (show ∀ i : Nat, i ≤ 300 → wa.cell? (ae.add i) = some (.int .i64 (ahead l i)) from fun i hi => by
    obtain ⟨ae2, h1, h2⟩ := int_at (Kd.R_reads' (M8.out.row (.tail _ (.tail _ (.tail _ (.tail _ (.tail _ (.head _)))))))).2.2 i (by have := HA2.out; omega)
    injection h1 with h1
    subst h1
    rw [el_aheadL l (by omega)] at h2
    exact h2)
  go_upto_region 23 with fail
  clear yb z12
  refine sz 22 (fun W => W.cell? ⟨g, 4, none⟩ = some (.slice X4 (pHandsTo l f.handlers q).length y4) ∧ W.cell? ⟨b12, 0, none⟩ = some (.int .i64 (nf : Int)) ∧ W.cell? ⟨b12, 1, none⟩ = some (.int .i64 (no : Int)) ∧ W.cell? ⟨b12, 2, none⟩ = some (.int .i64 (nt : Int)) ∧ W.cell? (ae.add nf) = some (.int .i64 (ahead l nf)) ∧ W.cell? (ae.add no) = some (.int .i64 (ahead l no)) ∧ W.cell? (ae.add nt) = some (.int .i64 (ahead l nt))) [19, 21] prI.tab23 prI.bits23 ⟨(M8.out.drew.box (.tail _ (.tail _ (.tail _ (.head _)))) 4).trans rfl, (M8.out.drew.box (.head _) 0).trans rfl, (M8.out.drew.box (.head _) 1).trans rfl, (M8.out.drew.box (.head _) 2).trans rfl, pw_cell_below (below_drew1 (Below.refl _ _)) (HAE.out nf hb3.1), pw_cell_below (below_drew1 (Below.refl _ _)) (HAE.out no hb3.2.1), pw_cell_below (below_drew1 (Below.refl _ _)) (HAE.out nt hb3.2.2)⟩ (fun HT_ HW_ hHeld => ?_)
  have MD := Aside0.mk M8.out.drew.drop; have ME := Aside0.mk M8.out.drew; have HAD := Aside0.mk (show ∀ i : Nat, i ≤ 300 → wa.drew.cell? (ae.add i) = some (.int .i64 (ahead l i)) from fun i hi => pw_cell_below (below_drew1 (Below.refl _ _)) (HAE.out i hi))
  clear HAE M8
  generalize wa.drew = wd at MD ME HAD hHeld ⊢
  refine pz 0 104 ?_; refine pz 2 106 ?_; refine pz 3 107 ?_; refine pz 7 111 ?_; refine pz 8 112 ?_; refine pz 12 116 ?_; refine pz 13 117 ?_; refine tz 1 105 ?_; refine tz 4 108 ?_; refine pz 5 109 ?_; refine tz 6 110 ?_; refine tz 9 113 ?_; refine pz 10 114 ?_; refine tz 11 115 ?_; refine tz 14 118 ?_; refine pz 15 119 ?_; refine tz 16 120 ?_; refine pz 17 121 ?_
  refine ez 18 (some 122) (fun K hK => ?_)
  refine value_ (w1 := ?_) (v := ?_) (by rfl) rfl ?_ ?_
  rotate_left 2
  · go_simp
    constructor
    · rfl
    · rfl
  refine hK.out _ _ ⟨((ME.out.step (below_alloc (Below.refl _ _) _)).box (.tail _ (.tail _ (.tail _ (.head _)))) 4).trans rfl, ((ME.out.step (below_alloc (Below.refl _ _) _)).box (.head _) 0).trans rfl, ((ME.out.step (below_alloc (Below.refl _ _) _)).box (.head _) 1).trans rfl, ((ME.out.step (below_alloc (Below.refl _ _) _)).box (.head _) 2).trans rfl, pw_cell_below (below_alloc (Below.refl _ _) _) (HAD.out nf hb3.1), pw_cell_below (below_alloc (Below.refl _ _) _) (HAD.out no hb3.2.1), pw_cell_below (below_alloc (Below.refl _ _) _) (HAD.out nt hb3.2.2)⟩ (fun hHeld => ?_); clear hK K; refine kz (some 122) ?_
  refine lz 19 (some 123) (fun K hK => ?_)
  have hlw : lo4 ≤ wd.heap.size := Nat.le_trans hhi4 (MD.out.fits _ (.head _)).2
  refine Kd.R_append_step kHandler (w0 := wd) lo4 (by rfl) (.tmp 105) (.tmp 122) 71 107 (.agg #[.int .i64 0, .int .i64 0, .int .i64 0]) 24 rfl Try.underlying71 (by kernel_rfl) rfl (by decide) (by omega) (.slice X4 (pHandsTo l f.handlers q).length y4) (pHandsTo l f.handlers q) (⟨ahead l nf, ahead l no, ahead l nt⟩ : Handler) [.int .i64 (ahead l nf), .int .i64 (ahead l no), .int .i64 (ahead l nt)] (fun k => lo4 ≤ k) (fun _ => False) ?aV ?aX (kHandler_mkM _ _ _ _) (fun _ h => h.elim) (fun k hk => Nat.le_trans hlw hk) (Kd.R_mono (MD.out.row (.head _)) (fun k hk => hk.1)) (Below.refl _ _) hlw (by omega) ?_
  (case aV => first | rfl | (go_simp; done) | (go_simp; rfl))
  (case aX => first | rfl | (go_simp; done) | (go_simp; rfl))
  intro v9 w9 ho hb9 hg9 hat9; clear hg9 hat9
  rw [← HST.out] at ho
  obtain ⟨A9, y9, hv9⟩ := Kd.R_slice ho; subst hv9
  have M9 := Aside0.mk (Mem.grow MD.out (fun h hh => by have hF := HF4.out; simp only [List.mem_cons, List.not_mem_nil, or_false] at hh; rcases hh with rfl | rfl | rfl | rfl | rfl | rfl <;> (simp only [Hold.box, Hold.val]; omega)) hb9 ho)
  have hh9 : lo4 ≤ w9.heap.size := Nat.le_trans hlw hb9.size
  clear ho hb9 MD
  refine hK.out _ _ ?_; clear hK K; refine kz (some 123) ?_
  refine pz 20 124 ?_
  refine lz 21 none (fun K hK => ?_)
  have b0 := M9.out.box (.tail _ (.tail _ (.head _))); have b1 := M9.out.free (.tail _ (.tail _ (.head _)))
  refine skip_ (w1 := ?_) (by rfl) rfl ?_ ?_
  rotate_left
  · go_simp
    rfl
  clear b0 b1
  refine hK.out _ _ ?_; clear hK K
  refine dz ?_
  clear hHeld HT_ HW_ ME HAD
  have M10 := Aside0.mk (Mem.set (A := [_, _]) M9.out 4 (.slice A9 (pHandsTo l f.handlers (q + 1)).length y9) rfl); clear M9
  try go_wp2
  go_roundw
  case measure => simp [intOf]; omega
  case rel => first | exact ⟨q + 1, w9.heap.size, A9, y9, by go_num, by omega, hh9, M10⟩ | ((repeat apply Exists.intro); exact ⟨⟨q + 1, w9.heap.size, A9, y9, by go_num, by omega, hh9, M10⟩, rfl⟩)
end Go.Proofs.Ytcbaokflimdjnaa.Flow
end
section
namespace Go.Proofs.Ytcbaokflimdjnaa.Flow
open Go.RowKit Go.Proofs.YtcbaokflimdjnaaW.PrintWords Go.Proofs.YtcbaokflimdjnaaW.PrintLast Go.Proofs.Ytcbaokflimdjnaa.Steps Go.Proofs.YtcbaokflimdjnaaW.PrintMore Go.Proofs.Ytcbaokflimdjnaa.Law Go.Proofs.Ytcbaokflimdjnaa Go.Proofs.Ytcbaokflimdjnaa.QFnExactVerify Go.Proofs.Ytcbaokflimdjnaa.Num
set_option linter.unusedVariables false
set_option linter.unusedSimpArgs false
set_option autoImplicit false
def prS.T11 : Bool × List (List Nat × List Nat) := (true, [([], []), ([0], [0]), ([], []), ([2], [2]), ([], []), ([], []), ([5], [5]), ([4, 6], [4, 6]), ([1, 3, 7], [1, 3, 7]), ([], []), ([9, 8, 7, 0, 1, 2, 3, 4, 5, 6, 7, 8, 9], [8, 9])])
def prS.B11 : List Nat := [0, 1, 0, 4, 0, 0, 32, 112, 255, 0, 1023]
theorem prS.tab11 : rtab .any (opsOf Try.f68 11) = prS.T11 := by kernel_rfl
theorem prS.bits11 : waitsOk prS.T11.2 prS.B11 = true := by kernel_rfl
def prS.T25 : Bool × List (List Nat × List Nat) := (true, [([], []), ([0], [0]), ([], []), ([], []), ([3], [3]), ([2, 4], [2, 4]), ([5], [5]), ([], []), ([], []), ([8], [8]), ([7, 9], [7, 9]), ([10], [10]), ([], []), ([], []), ([13], [13]), ([12, 14], [12, 14]), ([15], [15]), ([6, 11, 16], [6, 11, 16]), ([17], [17]), ([1, 18], [1, 18]), ([0, 1, 2, 3, 4, 5, 6, 7, 8, 9, 10, 11, 12, 13, 14, 15, 16, 17, 18, 19], []), ([20, 19, 19, 0, 1, 2, 3, 4, 5, 6, 7, 8, 9, 10, 11, 12, 13, 14, 15, 16, 17, 18, 19], [19, 20])])
def prS.B25 : List Nat := [0, 1, 0, 0, 8, 28, 60, 0, 0, 256, 896, 1920, 0, 0, 8192, 28672, 61440, 131068, 262140, 524287, 1048575, 2097151]
theorem prS.tab25 : rtab .any (opsOf Try.f68 25) = prS.T25 := by kernel_rfl
theorem prS.bits25 : waitsOk prS.T25.2 prS.B25 = true := by kernel_rfl
theorem Mem_boxRow {w wd W : World} {L : List Hold} (h : Mem w wd L) (hb : Below wd.heap.size wd W) {g : Nat} {cs : Array Value} {t : TypeId} (hg : wd.heap.size ≤ g) (hx : W.heap[g]? = some (.cells cs t (0, 0))) {l : List Cap} {v : Value} (hr : kCap.R 105 W wd.heap.size (fun _ => True) v l) (ht : 105 ≠ t) :
    ∃ lo hi, Mem w W (Hold.box g cs t :: Hold.val (Kd.slice 105 kCap) lo hi l [v] :: L) := by
  have h2 := h.step hb
  have hgl := blk_lt hx
  have key : ∀ lo hi : Nat, wd.heap.size ≤ lo → hi ≤ W.heap.size → (g + 1 ≤ lo ∨ hi ≤ g) → (Kd.slice 105 kCap).M W lo (fun k => lo ≤ k ∧ k < hi) l [v] → Mem w W (Hold.box g cs t :: Hold.val (Kd.slice 105 kCap) lo hi l [v] :: L) := by
    intro lo hi h3 h4 h5 hm
    refine ⟨h2.below, fun y hy => ?_, fun y hy => ?_, List.Pairwise.cons (fun b hb2 => ?_) (List.Pairwise.cons (fun b hb2 => .inl (Nat.le_trans (h.fits b hb2).2 h3)) h.apart)⟩
    · rcases List.mem_cons.1 hy with rfl | hy
      · exact hx
      · rcases List.mem_cons.1 hy with rfl | hy
        · exact hm
        · exact h2.says y hy
    · rcases List.mem_cons.1 hy with rfl | hy
      · exact ⟨Nat.le_trans h.below.size hg, hgl⟩
      · rcases List.mem_cons.1 hy with rfl | hy
        · exact ⟨Nat.le_trans h.below.size h3, h4⟩
        · exact h2.fits y hy
    · rcases List.mem_cons.1 hb2 with rfl | hb2
      · rcases h5 with h5 | h5
        · exact .inr h5
        · exact .inl h5
      · exact .inl (Nat.le_trans (h.fits b hb2).2 hg)
  have hne := Kd.R_ne hr hx ht
  obtain ⟨h0, inner, ho, hrep⟩ := hr
  have hrep2 : ∀ lo ok, Reps (kCap.M W lo ok) kCap.sz l inner := fun lo ok => hrep.imp_ (fun _ _ hp => by have e := kCap_openM hp; subst e; exact kCap_mkM _ _ _ _)
  rcases ho.2 with ⟨hv, hn⟩ | ⟨k, cap, cur, hv, hk, hbk, hrest⟩
  · exact ⟨wd.heap.size, wd.heap.size, key _ _ (Nat.le_refl _) hb.size (.inr hg) ⟨v, rfl, fun k hk => by rw [hv] at hk; simp [Value.ownBlock] at hk, inner, ho, hrep2 _ _⟩⟩
  · have hkl : k < W.heap.size := blk_lt hbk
    have hkg : g ≠ k := fun e => hne (by rw [hv, e]; simp [Value.ownBlock])
    refine ⟨k, k + 1, key k (k + 1) hk hkl (by omega) ⟨v, rfl, fun q hq => ?_, inner, ⟨ho.1, .inr ⟨k, cap, cur, hv, Nat.le_refl _, hbk, hrest⟩⟩, hrep2 _ _⟩⟩
    have : k = q := by rw [hv] at hq; simpa [Value.ownBlock] using hq
    subst this
    exact ⟨Nat.le_refl _, Nat.lt_succ_self _⟩
set_option maxHeartbeats 8000000 in
set_option maxRecDepth 100000 in
theorem cPrunedS (x : Image) (j : Nat) (A0 : Option Addr) (c0 : Nat) (A1 : Option Addr) (c1 : Nat) (w : World) (l0 : x.funcs.length ≤ c0) (g0 : kFuncI.C w A0 x.funcs.length x.funcs) (l1 : x.consts.length ≤ c1) (g1 : kConst.C w A1 x.consts.length x.consts) (hn : ∀ y ∈ x.consts, 0 ≤ y.num ∧ y.num < 18446744073709551616) (hi : imgB x = true) (hj : j < x.funcs.length) (hbad : (final x (el zFunc x.funcs j)).bad = false) :
    Calls Try.prog 68 #[.agg #[.slice A0 x.funcs.length c0, .slice A1 x.consts.length c1], .int .i64 j] w fun e w' => ∃ ds, e = .returned (.agg ⟨ds⟩) ∧ kFuncI.M w' w.heap.size (fun _ => True) (pFunc (final x (el zFunc x.funcs j)).reached (el zFunc x.funcs j)) ds ∧ Below w.heap.size w w' := by
  have ok := fn_ok hi (el_mem zFunc hj)
  have hfl := (final_len (x := x) ok.rg.1 ok.pr.1).2
  have hinb : Img.inB (j : Int) 0 ((x.funcs.length : Int) - 1) = true := decide_eq_true (by omega)
  have hst := st_yes (x := x) (fn := (j : Int)) (show okFn x (j : Int) = true by unfold okFn; rw [hi, hinb]; rfl) (show (flowOf x (j : Int)).bad = false from hbad)
  obtain ⟨fa, A2, c2, A3, c3, A4, c4, hfa, x0, x1, x2, x3, x4, hcap, hcode, hhan⟩ := func_at5 g0 j hj
  cases hfa
  have HCS := Aside0.mk (fun (W : World) (hB : Below w.heap.size w W) => cSpStates x (j : Int) (some fa) c0 A1 c1 W l0 (Kd.C_below g0 hB) l1 (Kd.C_below g1 hB) hn)
  obtain ⟨f, hfe⟩ : ∃ f, f = el zFunc x.funcs j := ⟨_, rfl⟩
  obtain ⟨l, hle⟩ : ∃ l, l = (final x (el zFunc x.funcs j)).reached := ⟨_, rfl⟩
  have HST0 := Aside0.mk (show stReached x (j : Int) = l from by rw [hst.2.2, hle]; rfl)
  have HSO := Aside0.mk hst.1
  rw [← hle] at hfl ⊢
  rw [← hfe] at x0 x1 x2 x3 x4 hcap hcode hhan ok hfl ⊢
  have hu := Try.underlying73; have hu1 := Try.underlying76; have hu2 := Try.underlying107; have hu3 := Try.underlying26; have hu4 := Try.underlying70; have hu5 := Try.underlying71; have hu6 := Try.underlying69; have hu7 := Try.underlying49; have hu8 := Try.underlying37; have hu9 := Try.underlying34
  have G2 := Aside0.mk hcap.2; have G3 := Aside0.mk hcode.2; have G4 := Aside0.mk hhan.2; have HLL := Aside0.mk hfl; have HC := Aside0.mk ok.code; have HH := Aside0.mk ok.hand
  have hkl := ok.kl; have hhl := ok.hl; have hcl := ok.cl
  have hl300 : l.length ≤ 300 := by omega
  have hj0 : (0 : Int) ≤ (j : Int) := by omega
  have hj1 : (j : Int) < (x.funcs.length : Int) := by omega
  clear hst hbad hi hn l0 g0 l1 g1 ok hfl hfe hle hinb hcap hcode hhan hj
  have M0 := Aside0.mk (((Mem.start w).allocAt rfl #[.slice (some fa) x.funcs.length c0, .slice A1 x.consts.length c1] 37).allocAt (g := w.heap.size + 1) (by simp) #[.int .i64 0, .int .i64 0, .slice none 0 0, .slice none 0 0, .slice none 0 0] 73)
  have z0 := M0.out.box (.tail _ (.head _))
  have y0 := pw_cell_below M0.out.below x0; have y1 := pw_cell_below M0.out.below x1; have y2 := pw_cell_below M0.out.below x2; have y3 := pw_cell_below M0.out.below x3; have y4 := pw_cell_below M0.out.below x4
  clear x0 x1 x2 x3 x4
  obtain ⟨b5, hb5⟩ : ∃ b5 : Nat, b5 = ((w.alloc (.cells #[.slice (some fa) x.funcs.length c0, .slice A1 x.consts.length c1] 37)).alloc (.cells #[.int .i64 0, .int .i64 0, .slice none 0 0, .slice none 0 0, .slice none 0 0] 73)).heap.size := ⟨_, rfl⟩
  have HB5 := Aside0.mk (show b5 = w.heap.size + 2 by rw [hb5]; simp)
  have M1 := Aside0.mk (M0.out.allocAt hb5 #[.int .i64 f.params, .int .i64 f.regs, .slice A2 f.caps.length c2, .slice A3 f.code.length c3, .slice A4 f.handlers.length c4] 73)
  go_enter Try.func68, Try.ntmps68
  go_upto_region 2 with fail
  have hb5b := HB5.out
  rw [show w.heap.size + 1 + 1 = b5 from by omega]
  clear z0 y0 y1 y2 y3 y4 M0 hb5b
  generalize hw5 : ((w.alloc (.cells #[.slice (some fa) x.funcs.length c0, .slice A1 x.consts.length c1] 37)).alloc (.cells #[.int .i64 0, .int .i64 0, .slice none 0 0, .slice none 0 0, .slice none 0 0] 73)).alloc (.cells #[.int .i64 f.params, .int .i64 f.regs, .slice A2 f.caps.length c2, .slice A3 f.code.length c3, .slice A4 f.handlers.length c4] 73) = w5 at M1 ⊢
  clear hw5 hb5
  have z0 := M1.out.box (.tail _ (.tail _ (.head _)))
  go_wp2_with fail
  clear z0
  have C := HCS.out w5 M1.out.below
  rw [HSO.out] at C
  refine C.mono ?_; clear C
  rintro e w6 ⟨v1, v2, rfl, _, hrr, hb6⟩
  rw [HST0.out] at hrr
  obtain ⟨AR, cR, rfl⟩ := Kd.R_slice hrr
  have M2 := Aside0.mk (M1.out.pushR hb6 hrr)
  clear hrr hb6 M1
  have HVR := Aside0.mk (M2.out.fits _ (.head _)).2
  go_upto_region 6 with (refine Kd.R_make (Kd.int .i64) _ 3 rfl (N := _) rfl _ _ _ rfl (302 : Int) rfl rfl Try.underlying26 (.int .i64 0) 8 (by kernel_rfl) rfl (by decide) (by omega) (0 : Int) (ok := fun _ => True) (okp := fun _ => True) rfl (fun _ hk => hk) trivial (by omega) (by omega) (Below.refl _ _) (Nat.le_refl _) ?_; intro v3 w7 ho hb hg_ hnew_; clear hg_ hnew_; have HO3 := Aside0.mk ho; have HB3 := Aside0.mk hb; clear ho hb)
  obtain ⟨A7, c7, hv7⟩ := Kd.R_slice HO3.out
  have hlr : (List.replicate (302 : Int).toNat (0 : Int)).length = 302 := List.length_replicate
  rw [hlr] at hv7
  subst hv7
  have M3 := Aside0.mk (M2.out.pushR HB3.out HO3.out)
  have HSZ3 := Aside0.mk (show w6.heap.size ≤ w7.heap.size from HB3.out.size)
  obtain ⟨lo, hlo⟩ : ∃ lo : Nat, lo = w6.heap.size := ⟨_, rfl⟩
  obtain ⟨hi, hhi⟩ : ∃ hi : Nat, hi = w7.heap.size := ⟨_, rfl⟩
  obtain ⟨vlo, hvlo⟩ : ∃ vlo : Nat, vlo = w5.heap.size := ⟨_, rfl⟩
  rw [← hlo, ← hhi, ← hvlo] at M3
  clear hlo hhi hvlo HO3 HB3 M2
  go_loopw [10, 11] (fun u v wx => ∃ (q : Nat) (xs : List Int), u = .int .i64 (ahead l q) ∧ v = .int .i64 q ∧ q ≤ 302 ∧ Aside0 (xs.length = 302) ∧ Aside0 (∀ i : Nat, i < q → el 0 xs i = ahead l i) ∧ Aside0 (Mem w wx [Hold.val (Kd.slice 3 (Kd.int .i64)) lo hi xs [.slice A7 302 c7], Hold.val (Kd.slice 4 Kd.bool) vlo lo l [.slice AR l.length cR], Hold.box b5 #[.int .i64 f.params, .int .i64 f.regs, .slice A2 f.caps.length c2, .slice A3 f.code.length c3, .slice A4 f.handlers.length c4] 73, Hold.box (w.heap.size + 1) #[.int .i64 0, .int .i64 0, .slice none 0 0, .slice none 0 0, .slice none 0 0] 73, Hold.box w.heap.size #[.slice (some fa) x.funcs.length c0, .slice A1 x.consts.length c1] 37])) (fun _ v _ => 302 - (intOf v).toNat)
  case atStart => exact ⟨0, _, by rw [show ahead l 0 = 0 from by simp [ahead, trues]], rfl, by omega, ⟨hlr⟩, ⟨fun i hi => by omega⟩, M3⟩
  case round =>
  clear M3 hlr
  obtain ⟨q, xs, rfl, rfl, hq, HXL, HXS, M4⟩ := hrel
  have hab := ahead_le l q
  by_cases hlt : q < 302
  · have hle : (q : Int) < 302 := by omega
    have hq0 : (0 : Int) ≤ (q : Int) := by omega
    obtain ⟨gq, cq, hgq, hgb, hgl, _⟩ := Kd.R_form (M4.out.row (.head _)) (by have := HXL.out; omega)
    injection hgq with e1 e2 e3; subst e1; subst e3; clear e2
    obtain ⟨k0, k1⟩ := Kd.R_celln 0 (M4.out.row (.head _)) (q : Int) (by omega) (by omega)
    rw [Int.toNat_natCast] at k0 k1
    have hp1 := (Kd.R_putg (M4.out.row (.head _)) (q : Int) (ahead l q)).1
    rw [Int.toNat_natCast] at hp1
    have hokq := (M4.out.row (.head _)).1 gq (by simp [Value.ownBlock])
    have hwq : w.heap.size ≤ gq := Nat.le_trans (M4.out.fits _ (.head _)).1 hokq.1
    have M5 := Aside0.mk (Mem.mark (d := Kd.slice 3 (Kd.int .i64)) (A := []) M4.out (below_set M4.out.below hwq) (Kept.setCell (Kept.refl _ _) (p := ⟨gq, q, none⟩) (.inl hokq) (.int .i64 (ahead l q))) ⟨_, rfl, hp1⟩)
    clear hp1 hokq hwq hgb hgl
    go_upto_region 9 with fail
    clear k0 k1 M4
    generalize wr.setCell ⟨gq, q, none⟩ (.int .i64 (ahead l q)) = wq at M5 ⊢
    have HXS2 := Aside0.mk (show ∀ i : Nat, i < q + 1 → el 0 (xs.set q (ahead l q)) i = ahead l i from fun i hi => by
      rcases Nat.lt_succ_iff_lt_or_eq.1 hi with h | h
      · rw [el_set, if_neg (by omega)]; exact HXS.out i h
      · subst h; rw [el_set, if_pos ⟨rfl, by have := HXL.out; omega⟩])
    have HXL2 := Aside0.mk (show (xs.set q (ahead l q)).length = 302 by rw [List.length_set]; exact HXL.out)
    by_cases hql : q < l.length
    · have hql2 : (q : Int) < (l.length : Int) := by omega
      obtain ⟨ra, hra, yb⟩ := bool_at (Kd.R_reads' (M5.out.row (.tail _ (.head _)))).2.2 q hql
      cases hra
      have hin := ahead_in l hql
      rcases Bool.eq_false_or_eq_true (el false l q) with hv | hv
      · rw [hv] at yb
        rw [hv, if_pos rfl] at hin
        have HIN := Aside0.mk hin
        clear hv hin
        go_wp2
        go_roundw
        case measure => simp [intOf]; omega
        case rel => exact ⟨q + 1, _, by rw [HIN.out], by go_num, by omega, HXL2, HXS2, M5⟩
      · rw [hv] at yb
        rw [hv, if_neg (by decide), Int.add_zero] at hin
        have HIN := Aside0.mk hin
        clear hv hin
        go_wp2
        go_roundw
        case measure => simp [intOf]; omega
        case rel => exact ⟨q + 1, _, by rw [HIN.out], by go_num, by omega, HXL2, HXS2, M5⟩
    · have hql2 : ¬ (q : Int) < (l.length : Int) := by omega
      have HIN := Aside0.mk (ahead_out l hql)
      go_wp2
      go_roundw
      case measure => simp [intOf]; omega
      case rel => exact ⟨q + 1, _, by rw [HIN.out], by go_num, by omega, HXL2, HXS2, M5⟩
  have hle : ¬ (q : Int) < 302 := by omega
  obtain rfl : q = 302 := by omega
  clear hlt hq hle hab
  obtain ⟨ae, hae, _⟩ := int_at (show (Kd.int .i64).C wr A7 xs.length xs from (Kd.R_reads' (M4.out.row (.head _))).2.2) 0 (by have := HXL.out; omega)
  cases hae
  go_upto_region 11 with fail
  obtain ⟨L, HL, ML⟩ := Mem.hide M4
  have EB := Aside0.mk (show Hold.box b5 #[.int .i64 f.params, .int .i64 f.regs, .slice A2 f.caps.length c2, .slice A3 f.code.length c3, .slice A4 f.handlers.length c4] 73 ∈ L from HL.out ▸ (.tail _ (.tail _ (.head _))))
  clear M4
  go_cut [12] (fun sl wx => ∃ (g lo2 hi2 : Nat) (X : Option Addr) (Y : Nat) (W : World), sl = .pointer (some ⟨g, 0, none⟩) ∧ Aside0 (W = wx) ∧ Aside0 (Mem w W (Hold.box g #[.int .i64 f.params, .int .i64 f.regs, .slice X f.caps.length Y, .slice none 0 0, .slice none 0 0] 73 :: Hold.val (Kd.slice 105 kCap) lo2 hi2 (f.caps) [.slice X (f.caps).length Y] :: L)))
  case first =>
    refine sz 11 (fun W => W.cell? ⟨b5, 0, none⟩ = some (.int .i64 f.params) ∧ W.cell? ⟨b5, 1, none⟩ = some (.int .i64 f.regs) ∧ W.cell? ⟨b5, 2, none⟩ = some (.slice A2 f.caps.length c2)) [10] prS.tab11 prS.bits11 ⟨((ML.out.drew).box EB.out 0).trans rfl, ((ML.out.drew).box EB.out 1).trans rfl, ((ML.out.drew).box EB.out 2).trans rfl⟩ (fun HT_ HW_ hHeld => ?_)
    have MD := Aside0.mk ML.out.drew
    generalize wr.drew = wd at MD hHeld ⊢
    have CD := Aside0.mk (Below.refl wd.heap.size wd)
    refine pz 0 52 ?_; refine pz 2 54 ?_; refine pz 5 57 ?_; refine tz 1 53 ?_; refine tz 3 55 ?_; refine tz 6 58 ?_
    refine twz 4 9 (some 56) (some 12) (fun K hK => ?_) (fun K hK => ?_)
    · skip
      refine Kd.R_lit_step kCap (w0 := wd) wd.heap.size 105 ?hg (N := 56) ?hd (xs := ([] : List Cap)) (inner := []) (ok := fun _ => True) (okp := fun _ => True) ?hr ?hp (fun _ hk => hk) trivial CD.out CD.out.size (by simp) ?_; (case hd => rfl); (case hg => rfl); (case hr => first | (go_simp; done) | (go_simp; rfl)); (case hp => exact (Reps.none _ _))
      intro v5 w15 ho hb hg_ hnew_; clear hnew_
      have HO := Aside0.mk ho; have CL := Aside0.mk hb
      clear ho hb hg_
      refine hK.out _ _ ⟨((MD.out.step CL.out).box EB.out 0).trans rfl, ((MD.out.step CL.out).box EB.out 1).trans rfl, ((MD.out.step CL.out).box EB.out 2).trans rfl⟩ (fun hHeld => ?_); clear hK K; refine kz (some 56) ?_
      refine twz 7 9 (some 59) (some 12) (fun K hK => ?_) (fun K hK => ?_)
      · skip
        refine Kd.R_append_rows_step kCap (Rr := kCap.K w15) (w0 := wd) wd.heap.size (by rfl) (.tmp 56) (.tmp 58) 69 105 (.agg #[.bool false, .int .i64 0]) 16 rfl Try.underlying69 (by kernel_rfl) rfl (by decide) (by omega) v5 [] f.caps _ _ _ (fun _ => True) (fun _ => False) rfl rfl ?aO ?aR ?aM (fun _ h => h.elim) ?aF ?aB ?aS ?aL ?_
        (case aR => exact Kd.C_below G2.out (MD.out.step CL.out).below)
        (case aM => intro _ _ h; have e := kCap_open h; subst e; exact kCap_mkM _ _ _ _)
        (case aO => exact HO.out)
        (case aF => exact fun _ _ => trivial)
        (case aB => exact CL.out)
        (case aS => exact CL.out.size)
        (case aL => simp; omega)
        intro v6 w16 ho hb hg_ hat_; clear hat_
        rw [List.nil_append] at ho
        obtain ⟨A6, y6, rfl⟩ := Kd.R_slice ho
        have HA := Aside0.mk ho; have CA := Aside0.mk hb
        clear ho hb hg_
        refine hK.out _ _ ⟨((MD.out.step CA.out).box EB.out 0).trans rfl, ((MD.out.step CA.out).box EB.out 1).trans rfl, ((MD.out.step CA.out).box EB.out 2).trans rfl⟩ (fun hHeld => ?_); clear hK K; refine kz (some 59) ?_
        refine pz 8 60 ?_
        refine ez 9 (some 12) (fun K hK => ?_)
        refine box_step ?hg (N := 12) ?hd (cs := #[.int .i64 0, .int .i64 0, .slice none 0 0, .slice none 0 0, .slice none 0 0]) (t := 73) ?hr ?_; (case hd => rfl); (case hg => rfl); (case hr => first | (go_simp; done) | (go_simp; rfl))
        intro g8 hg w17 hbx hbb
        have CB := Aside0.mk (below_step CA.out hbb); have KB := Aside0.mk hbx; have HG := Aside0.mk (show wd.heap.size ≤ g8 by rw [hg]; exact CA.out.size)
        have HBR := Aside0.mk (Kd.R_below HA.out hbb)
        clear hg hbx hbb
        refine hK.out _ _ ⟨((MD.out.step CB.out).box EB.out 0).trans rfl, ((MD.out.step CB.out).box EB.out 1).trans rfl, ((MD.out.step CB.out).box EB.out 2).trans rfl⟩ (fun hHeld => ?_); clear hK K; refine kz (some 12) ?_
        refine lz 10 none (fun K hK => ?_)
        have b0 := fun o => blk_cell KB.out o; have b1 := fun o => blk_frozen KB.out o
        refine skip_ (w1 := ?_) (by rfl) rfl ?_ ?_
        rotate_left
        · go_simp
          rfl
        clear b0 b1
        refine hK.out _ _ ?_; clear hK K
        refine dz ?_
        clear hHeld
        obtain ⟨lo2, hi2, hMY⟩ := Mem_boxRow MD.out CB.out HG.out KB.out HBR.out (by decide)
        have MY := Aside0.mk hMY; clear hMY
        have MZ := Aside0.mk (Mem.set (A := []) (Mem.set (A := []) (Mem.set (A := []) (Mem.set (A := []) (Mem.set (A := []) MY.out 0 (.int .i64 f.params) rfl) 1 (.int .i64 f.regs) rfl) 2 (.slice A6 f.caps.length y6) rfl) 3 (.slice none 0 0) rfl) 4 (.slice none 0 0) rfl)
        try go_wp2_with fail
        go_meet
        exact ⟨_, _, _, _, _, _, rfl, ⟨rfl⟩, MZ⟩
      · skip
        refine box_step ?hg (N := 12) ?hd (cs := #[.int .i64 0, .int .i64 0, .slice none 0 0, .slice none 0 0, .slice none 0 0]) (t := 73) ?hr ?_; (case hd => rfl); (case hg => rfl); (case hr => first | (go_simp; done) | (go_simp; rfl))
        intro g8 hg w17 hbx hbb
        have CB := Aside0.mk (below_step CL.out hbb); have KB := Aside0.mk hbx; have HG := Aside0.mk (show wd.heap.size ≤ g8 by rw [hg]; exact CL.out.size)
        have HBR := Aside0.mk (Kd.R_below HO.out hbb)
        clear hg hbx hbb
        refine hK.out _ _ ⟨((MD.out.step CB.out).box EB.out 0).trans rfl, ((MD.out.step CB.out).box EB.out 1).trans rfl, ((MD.out.step CB.out).box EB.out 2).trans rfl⟩ (fun hHeld => ?_); clear hK K; refine kz (some 12) ?_
        refine ez 7 (some 59) (fun K hK => ?_)
        refine Kd.R_append_rows_step kCap (Rr := kCap.K w17) (w0 := wd) wd.heap.size (by rfl) (.tmp 56) (.tmp 58) 69 105 (.agg #[.bool false, .int .i64 0]) 16 rfl Try.underlying69 (by kernel_rfl) rfl (by decide) (by omega) v5 [] f.caps _ _ _ (fun _ => True) (fun _ => False) rfl rfl ?aO ?aR ?aM (fun _ h => h.elim) ?aF ?aB ?aS ?aL ?_
        (case aR => exact Kd.C_below G2.out (MD.out.step CB.out).below)
        (case aM => intro _ _ h; have e := kCap_open h; subst e; exact kCap_mkM _ _ _ _)
        (case aO => exact HBR.out)
        (case aF => exact fun _ _ => trivial)
        (case aB => exact CB.out)
        (case aS => exact CB.out.size)
        (case aL => simp; omega)
        intro v6 w16 ho hb hg_ hat_; clear hat_
        rw [List.nil_append] at ho
        obtain ⟨A6, y6, rfl⟩ := Kd.R_slice ho
        have HA := Aside0.mk ho; have CA := Aside0.mk hb
        have KA := Aside0.mk (blk_grown KB.out hg_ (Kd.R_ne HBR.out KB.out (by decide)))
        clear ho hb hg_
        refine hK.out _ _ ⟨((MD.out.step CA.out).box EB.out 0).trans rfl, ((MD.out.step CA.out).box EB.out 1).trans rfl, ((MD.out.step CA.out).box EB.out 2).trans rfl⟩ (fun hHeld => ?_); clear hK K; refine kz (some 59) ?_
        refine pz 8 60 ?_
        refine lz 10 none (fun K hK => ?_)
        have b0 := fun o => blk_cell KA.out o; have b1 := fun o => blk_frozen KA.out o
        refine skip_ (w1 := ?_) (by rfl) rfl ?_ ?_
        rotate_left
        · go_simp
          rfl
        clear b0 b1
        refine hK.out _ _ ?_; clear hK K
        refine dz ?_
        clear hHeld
        obtain ⟨lo2, hi2, hMY⟩ := Mem_boxRow MD.out CA.out HG.out KA.out HA.out (by decide)
        have MY := Aside0.mk hMY; clear hMY
        have MZ := Aside0.mk (Mem.set (A := []) (Mem.set (A := []) (Mem.set (A := []) (Mem.set (A := []) (Mem.set (A := []) MY.out 0 (.int .i64 f.params) rfl) 1 (.int .i64 f.regs) rfl) 2 (.slice A6 f.caps.length y6) rfl) 3 (.slice none 0 0) rfl) 4 (.slice none 0 0) rfl)
        try go_wp2_with fail
        go_meet
        exact ⟨_, _, _, _, _, _, rfl, ⟨rfl⟩, MZ⟩
    · skip
      refine box_step ?hg (N := 12) ?hd (cs := #[.int .i64 0, .int .i64 0, .slice none 0 0, .slice none 0 0, .slice none 0 0]) (t := 73) ?hr ?_; (case hd => rfl); (case hg => rfl); (case hr => first | (go_simp; done) | (go_simp; rfl))
      intro g8 hg w17 hbx hbb
      have CB := Aside0.mk (below_step CD.out hbb); have KB := Aside0.mk hbx; have HG := Aside0.mk (show wd.heap.size ≤ g8 by rw [hg]; exact CD.out.size)
      clear hg hbx hbb
      refine hK.out _ _ ⟨((MD.out.step CB.out).box EB.out 0).trans rfl, ((MD.out.step CB.out).box EB.out 1).trans rfl, ((MD.out.step CB.out).box EB.out 2).trans rfl⟩ (fun hHeld => ?_); clear hK K; refine kz (some 12) ?_
      refine ez 4 (some 56) (fun K hK => ?_)
      refine Kd.R_lit_step kCap (w0 := wd) wd.heap.size 105 ?hg (N := 56) ?hd (xs := ([] : List Cap)) (inner := []) (ok := fun _ => True) (okp := fun _ => True) ?hr ?hp (fun _ hk => hk) trivial CB.out CB.out.size (by simp) ?_; (case hd => rfl); (case hg => rfl); (case hr => first | (go_simp; done) | (go_simp; rfl)); (case hp => exact (Reps.none _ _))
      intro v5 w15 ho hb hg_ hnew_; clear hnew_
      have HO := Aside0.mk ho; have CL := Aside0.mk hb
      have KL := Aside0.mk (blk_grown KB.out hg_ (by simp))
      clear ho hb hg_
      refine hK.out _ _ ⟨((MD.out.step CL.out).box EB.out 0).trans rfl, ((MD.out.step CL.out).box EB.out 1).trans rfl, ((MD.out.step CL.out).box EB.out 2).trans rfl⟩ (fun hHeld => ?_); clear hK K; refine kz (some 56) ?_
      refine ez 7 (some 59) (fun K hK => ?_)
      refine Kd.R_append_rows_step kCap (Rr := kCap.K w15) (w0 := wd) wd.heap.size (by rfl) (.tmp 56) (.tmp 58) 69 105 (.agg #[.bool false, .int .i64 0]) 16 rfl Try.underlying69 (by kernel_rfl) rfl (by decide) (by omega) v5 [] f.caps _ _ _ (fun _ => True) (fun _ => False) rfl rfl ?aO ?aR ?aM (fun _ h => h.elim) ?aF ?aB ?aS ?aL ?_
      (case aR => exact Kd.C_below G2.out (MD.out.step CL.out).below)
      (case aM => intro _ _ h; have e := kCap_open h; subst e; exact kCap_mkM _ _ _ _)
      (case aO => exact HO.out)
      (case aF => exact fun _ _ => trivial)
      (case aB => exact CL.out)
      (case aS => exact CL.out.size)
      (case aL => simp; omega)
      intro v6 w16 ho hb hg_ hat_; clear hat_
      rw [List.nil_append] at ho
      obtain ⟨A6, y6, rfl⟩ := Kd.R_slice ho
      have HA := Aside0.mk ho; have CA := Aside0.mk hb
      have KA := Aside0.mk (blk_grown KL.out hg_ (Kd.R_ne HO.out KL.out (by decide)))
      clear ho hb hg_
      refine hK.out _ _ ⟨((MD.out.step CA.out).box EB.out 0).trans rfl, ((MD.out.step CA.out).box EB.out 1).trans rfl, ((MD.out.step CA.out).box EB.out 2).trans rfl⟩ (fun hHeld => ?_); clear hK K; refine kz (some 59) ?_
      refine pz 8 60 ?_
      refine lz 10 none (fun K hK => ?_)
      have b0 := fun o => blk_cell KA.out o; have b1 := fun o => blk_frozen KA.out o
      refine skip_ (w1 := ?_) (by rfl) rfl ?_ ?_
      rotate_left
      · go_simp
        rfl
      clear b0 b1
      refine hK.out _ _ ?_; clear hK K
      refine dz ?_
      clear hHeld
      obtain ⟨lo2, hi2, hMY⟩ := Mem_boxRow MD.out CA.out HG.out KA.out HA.out (by decide)
      have MY := Aside0.mk hMY; clear hMY
      have MZ := Aside0.mk (Mem.set (A := []) (Mem.set (A := []) (Mem.set (A := []) (Mem.set (A := []) (Mem.set (A := []) MY.out 0 (.int .i64 f.params) rfl) 1 (.int .i64 f.regs) rfl) 2 (.slice A6 f.caps.length y6) rfl) 3 (.slice none 0 0) rfl) 4 (.slice none 0 0) rfl)
      try go_wp2_with fail
      go_meet
      exact ⟨_, _, _, _, _, _, rfl, ⟨rfl⟩, MZ⟩
  case rest =>
  clear ML
  obtain ⟨g, lo2, hi2, X2, Y2, W2, rfl, HW, M3⟩ := hcut
  have hw3 := HW.out; subst hw3; clear HW
  have hl := HL.out; subst hl; clear HL EB
  have M4 := Aside0.mk (M3.out.pushR (Below.refl _ _) (Kd.R_nil kIns 76 W2 W2.heap.size (fun _ => True)))
  have HF3 := Aside0.mk (show ((w.heap.size + 2 ≤ W2.heap.size ∧ hi ≤ W2.heap.size) ∧ (hi2 ≤ W2.heap.size ∧ g + 1 ≤ W2.heap.size)) ∧ (lo ≤ W2.heap.size ∧ b5 + 1 ≤ W2.heap.size) from ⟨⟨⟨(M3.out.fits _ (.tail _ (.tail _ (.tail _ (.tail _ (.tail _ (.head _))))))).2, (M3.out.fits _ (.tail _ (.tail _ (.head _)))).2⟩, (M3.out.fits _ (.tail _ (.head _))).2, (M3.out.fits _ (.head _)).2⟩, (M3.out.fits _ (.tail _ (.tail _ (.tail _ (.head _))))).2, (M3.out.fits _ (.tail _ (.tail _ (.tail _ (.tail _ (.head _)))))).2⟩)
  obtain ⟨lo3, hlo3⟩ : ∃ lo3 : Nat, lo3 = W2.heap.size := ⟨_, rfl⟩
  rw [← hlo3] at M4 HF3
  clear hlo3 M3
  go_upto_region 13 with fail
  go_loopw [13] (fun v wx => ∃ (q hi3 : Nat) (X : Option Addr) (y3 : Nat), v = .int .i64 q ∧ q ≤ f.code.length ∧ lo3 ≤ hi3 ∧ Aside0 (Mem w wx [Hold.val (Kd.slice 76 kIns) lo3 hi3 (pCodeTo l f.code (q)) [.slice X (pCodeTo l f.code (q)).length y3], Hold.box g #[.int .i64 f.params, .int .i64 f.regs, .slice X2 f.caps.length Y2, .slice X (pCodeTo l f.code (q)).length y3, .slice none 0 0] 73, Hold.val (Kd.slice 105 kCap) lo2 hi2 (f.caps) [.slice X2 (f.caps).length Y2], Hold.val (Kd.slice 3 (Kd.int .i64)) lo hi xs [.slice (some ae) 302 c7], Hold.val (Kd.slice 4 Kd.bool) vlo lo l [.slice AR l.length cR], Hold.box b5 #[.int .i64 f.params, .int .i64 f.regs, .slice A2 f.caps.length c2, .slice A3 f.code.length c3, .slice A4 f.handlers.length c4] 73, Hold.box (w.heap.size + 1) #[.int .i64 0, .int .i64 0, .slice none 0 0, .slice none 0 0, .slice none 0 0] 73, Hold.box w.heap.size #[.slice (some fa) x.funcs.length c0, .slice A1 x.consts.length c1] 37])) (fun v _ => f.code.length - (intOf v).toNat)
  case atStart => exact ⟨0, lo3, none, 0, rfl, by omega, Nat.le_refl _, M4⟩
  case round =>
  clear M4
  obtain ⟨q, hi3, X, y3, rfl, hq, hhi3, M5⟩ := hrel
  have hpl := pCodeTo_len l f.code q
  have z5 := M5.out.box (.tail _ (.tail _ (.tail _ (.tail _ (.tail _ (.head _))))))
  by_cases hlt : q < f.code.length
  · have hle : (q : Int) < (f.code.length : Int) := by omega
    have hq0 : (0 : Int) ≤ (q : Int) := by omega
    obtain ⟨ka, hka, kK, k0, k1, k2⟩ := Ins_at G3.out q hlt
    cases hka
    obtain ⟨i, hie⟩ : ∃ i, i = el zIns f.code q := ⟨_, rfl⟩
    rw [← hie] at k0 k1 k2
    have HIE := Aside0.mk hie; have HIC := Aside0.mk (HC.out i (by rw [hie]; exact el_mem zIns hlt))
    have y0 := pw_cell_below M5.out.below k0; have y1 := pw_cell_below M5.out.below k1; have y2 := pw_cell_below M5.out.below k2
    clear kK k0 k1 k2 hie
    have hql : (q : Int) < (l.length : Int) := by have := HLL.out; omega
    obtain ⟨ra, hra, yb⟩ := bool_at (Kd.R_reads' (M5.out.row (.tail _ (.tail _ (.tail _ (.tail _ (.head _))))))).2.2 q (by omega)
    cases hra
    rcases Bool.eq_false_or_eq_true (el false l q) with hv | hv
    rotate_left
    · rw [hv] at yb
      have HST := Aside0.mk (show pCodeTo l f.code (q + 1) = pCodeTo l f.code q from by
        show (if el false l q = true then _ else _) = _
        rw [if_neg (by rw [hv]; decide)])
      clear hv
      go_wp2
      go_roundw
      case measure => simp [intOf]; omega
      case rel => exact ⟨q + 1, hi3, X, y3, by go_num, by omega, hhi3, by rw [HST.out]; exact M5⟩
    rw [hv] at yb
    have HST0 := Aside0.mk (show pCodeTo l f.code (q + 1) = pCodeTo l f.code q ++ [pIns l i] from by
      show (if el false l q = true then _ else _) = _
      rw [if_pos hv, ← HIE.out])
    clear hv
    obtain ⟨b10, hb10⟩ : ∃ b : Nat, b = wr.heap.size := ⟨_, rfl⟩
    have M6 := Aside0.mk (M5.out.allocAt hb10 #[.int .i64 i.op, .int .i64 i.a, .int .i64 i.b] 76)
    go_upto_region 17 with fail
    rw [← hb10]
    clear y0 y1 y2 yb z5
    generalize hwa : wr.alloc (.cells #[.int .i64 i.op, .int .i64 i.a, .int .i64 i.b] 76) = wa at M6 ⊢
    clear hwa hb10
    have z10 := M6.out.box (.head _)
    go_wp2_with fail
    refine (spec_l01In.calls _ _ _ _ _ (Img.spec_in i.op 12 14)).mono ?_; rintro e wb ⟨rfl, ⟨⟨n2, rfl⟩⟩⟩
    have M7 := Aside0.mk (M6.out.draw n2); clear z10 M6
    generalize wa.drewN n2 = wb at M7 ⊢
    have HJ := Aside0.mk (show isJump i.op = Img.inB i.op 12 14 from by unfold isJump Img.inB; exact decide_eq_decide.2 (by omega))
    have z10 := M7.out.box (.head _); have f10 := M7.out.free (.head _)
    rcases Bool.eq_false_or_eq_true (Img.inB i.op 12 14) with hjp | hjp
    · rw [hjp]
      obtain ⟨na, hna⟩ : ∃ na : Nat, i.a = na := ⟨i.a.toNat, by have := HIC.out.2.1; omega⟩
      have HST := Aside0.mk (show pCodeTo l f.code (q + 1) = pCodeTo l f.code q ++ [⟨i.op, ahead l na, i.b⟩] from by
        rw [HST0.out]
        unfold pIns
        rw [HJ.out, if_pos hjp, hna, Int.toNat_natCast])
      clear hjp
      have hn3 : na ≤ 300 := by have := HIC.out.2.1; omega
      have hna0 : (0 : Int) ≤ (na : Int) := by omega
      have hna1 : (na : Int) < 302 := by omega
      obtain ⟨ae2, hae2, ka2⟩ := int_at (show (Kd.int .i64).C wb (some ae) xs.length xs from (Kd.R_reads' (M7.out.row (.tail _ (.tail _ (.tail _ (.tail _ (.head _))))))).2.2) na (by have := HXL.out; omega)
      injection hae2 with hae2
      subst hae2
      rw [HXS.out na (by omega)] at ka2
      rw [hna] at z10 M7
      have M8 := Aside0.mk (Mem.set (A := []) M7.out 1 (.int .i64 (ahead l na)) rfl)
      go_upto_region 19 with fail
      clear z10 f10 ka2 M7 hna
      generalize wb.setCell ⟨b10, 1, none⟩ (.int .i64 (ahead l na)) = wk at M8 ⊢
      have zg := M8.out.box (.tail _ (.tail _ (.head _))); have fg := M8.out.free (.tail _ (.tail _ (.head _))); have z11 := M8.out.box (.head _)
      have M9 := Aside0.mk M8.out.drop; clear M8
      have hhi := hhi3
      have hlw : lo3 ≤ wk.heap.size := Nat.le_trans hhi (M9.out.fits _ (.head _)).2
      go_wp2_with (((with_reducible refine gate_builtin (b := .append) (xs := #[.tmp 88, .tmp 90]) rfl ?_); at_builtin; refine Aside0.out ?_))
      refine ⟨?_⟩
      refine Kd.R_append kIns (w0 := wk) lo3 rfl (.tmp 88) (.tmp 90) 70 76 (.agg #[.int .i64 0, .int .i64 0, .int .i64 0]) 24 rfl Try.underlying70 (by kernel_rfl) rfl (by decide) (by decide) (.slice X (pCodeTo l f.code q).length y3) (pCodeTo l f.code q) ((⟨i.op, ahead l na, i.b⟩ : Ins)) [.int .i64 i.op, .int .i64 (ahead l na), .int .i64 i.b] (fun k => lo3 ≤ k) (fun _ => False) ?aV ?aX (kIns_mkM _ _ _ _) (fun _ h => h.elim) (fun k hk => Nat.le_trans hlw hk) (Kd.R_mono (M9.out.row (.head _)) (fun k hk => hk.1)) (Below.refl _ _) hlw (by omega) ?_
      (case aV => first | rfl | (go_simp; done) | (go_simp; rfl))
      (case aX => first | rfl | (go_simp; done) | (go_simp; rfl))
      intro v9 w9 ho hb9 hg9 hat9; clear hg9 hat9
      rw [← HST.out] at ho
      obtain ⟨A9, y9, hv9⟩ := Kd.R_slice ho; subst hv9
      have MQ := Aside0.mk (Mem.grow M9.out (fun h hh => by have hF := HF3.out; simp only [List.mem_cons, List.not_mem_nil, or_false] at hh; rcases hh with rfl | rfl | rfl | rfl | rfl | rfl | rfl <;> (simp only [Hold.box, Hold.val]; omega)) hb9 ho)
      have hh9 : lo3 ≤ w9.heap.size := Nat.le_trans hlw hb9.size
      clear ho hb9 M9
      clear zg fg z11
      have zg := MQ.out.box (.tail _ (.head _)); have fg := MQ.out.free (.tail _ (.head _))
      have M10 := Aside0.mk (Mem.set (A := [_]) MQ.out 3 (.slice A9 (pCodeTo l f.code (q + 1)).length y9) rfl); clear MQ
      go_wp2
      go_roundw
      (case measure => simp [intOf]; omega)
      (case rel => first | exact ⟨q + 1, w9.heap.size, A9, y9, by go_num, by omega, hh9, M10⟩ | ((repeat apply Exists.intro); exact ⟨⟨q + 1, w9.heap.size, A9, y9, by go_num, by omega, hh9, M10⟩, rfl⟩))
    · rw [hjp]
      have HST := Aside0.mk (show pCodeTo l f.code (q + 1) = pCodeTo l f.code q ++ [⟨i.op, i.a, i.b⟩] from by
        rw [HST0.out]
        unfold pIns
        rw [HJ.out, if_neg (by rw [hjp]; decide)])
      clear hjp
      have M8 := M7
      go_upto_region 19 with fail
      clear z10 f10 M7
      have zg := M8.out.box (.tail _ (.tail _ (.head _))); have fg := M8.out.free (.tail _ (.tail _ (.head _))); have z11 := M8.out.box (.head _)
      have M9 := Aside0.mk M8.out.drop; clear M8
      have hhi := hhi3
      have hlw : lo3 ≤ wb.heap.size := Nat.le_trans hhi (M9.out.fits _ (.head _)).2
      go_wp2_with (((with_reducible refine gate_builtin (b := .append) (xs := #[.tmp 88, .tmp 90]) rfl ?_); at_builtin; refine Aside0.out ?_))
      refine ⟨?_⟩
      refine Kd.R_append kIns (w0 := wb) lo3 rfl (.tmp 88) (.tmp 90) 70 76 (.agg #[.int .i64 0, .int .i64 0, .int .i64 0]) 24 rfl Try.underlying70 (by kernel_rfl) rfl (by decide) (by decide) (.slice X (pCodeTo l f.code q).length y3) (pCodeTo l f.code q) ((⟨i.op, i.a, i.b⟩ : Ins)) [.int .i64 i.op, .int .i64 i.a, .int .i64 i.b] (fun k => lo3 ≤ k) (fun _ => False) ?aV ?aX (kIns_mkM _ _ _ _) (fun _ h => h.elim) (fun k hk => Nat.le_trans hlw hk) (Kd.R_mono (M9.out.row (.head _)) (fun k hk => hk.1)) (Below.refl _ _) hlw (by omega) ?_
      (case aV => first | rfl | (go_simp; done) | (go_simp; rfl))
      (case aX => first | rfl | (go_simp; done) | (go_simp; rfl))
      intro v9 w9 ho hb9 hg9 hat9; clear hg9 hat9
      rw [← HST.out] at ho
      obtain ⟨A9, y9, hv9⟩ := Kd.R_slice ho; subst hv9
      have MQ := Aside0.mk (Mem.grow M9.out (fun h hh => by have hF := HF3.out; simp only [List.mem_cons, List.not_mem_nil, or_false] at hh; rcases hh with rfl | rfl | rfl | rfl | rfl | rfl | rfl <;> (simp only [Hold.box, Hold.val]; omega)) hb9 ho)
      have hh9 : lo3 ≤ w9.heap.size := Nat.le_trans hlw hb9.size
      clear ho hb9 M9
      clear zg fg z11
      have zg := MQ.out.box (.tail _ (.head _)); have fg := MQ.out.free (.tail _ (.head _))
      have M10 := Aside0.mk (Mem.set (A := [_]) MQ.out 3 (.slice A9 (pCodeTo l f.code (q + 1)).length y9) rfl); clear MQ
      go_wp2
      go_roundw
      (case measure => simp [intOf]; omega)
      (case rel => first | exact ⟨q + 1, w9.heap.size, A9, y9, by go_num, by omega, hh9, M10⟩ | ((repeat apply Exists.intro); exact ⟨⟨q + 1, w9.heap.size, A9, y9, by go_num, by omega, hh9, M10⟩, rfl⟩))
  have hle : ¬ (q : Int) < (f.code.length : Int) := by omega
  obtain rfl : q = f.code.length := by omega
  clear hlt hq hpl
  have M6 := Aside0.mk (M5.out.pushR (Below.refl _ _) (Kd.R_nil kHandler 107 wr wr.heap.size (fun _ => True)))
  have HF4 := Aside0.mk (show hi3 ≤ wr.heap.size ∧ ((w.heap.size + 2 ≤ wr.heap.size ∧ hi ≤ wr.heap.size) ∧ (hi2 ≤ wr.heap.size ∧ g + 1 ≤ wr.heap.size)) ∧ (lo ≤ wr.heap.size ∧ b5 + 1 ≤ wr.heap.size) from ⟨(M5.out.fits _ (.head _)).2, ⟨⟨(M5.out.fits _ (.tail _ (.tail _ (.tail _ (.tail _ (.tail _ (.tail _ (.head _)))))))).2, (M5.out.fits _ (.tail _ (.tail _ (.tail _ (.head _))))).2⟩, (M5.out.fits _ (.tail _ (.tail _ (.head _)))).2, (M5.out.fits _ (.tail _ (.head _))).2⟩, (M5.out.fits _ (.tail _ (.tail _ (.tail _ (.tail _ (.head _)))))).2, (M5.out.fits _ (.tail _ (.tail _ (.tail _ (.tail _ (.tail _ (.head _))))))).2⟩)
  obtain ⟨lo4, hlo4⟩ : ∃ lo4 : Nat, lo4 = wr.heap.size := ⟨_, rfl⟩
  rw [← hlo4] at M6 HF4
  clear hlo4 M5
  go_upto_region 21 with fail
  clear z5 hle
  go_loopw [15] (fun v wx => ∃ (q hi4 : Nat) (X4 : Option Addr) (y4 : Nat), v = .int .i64 q ∧ q ≤ f.handlers.length ∧ lo4 ≤ hi4 ∧ Aside0 (Mem w wx [Hold.val (Kd.slice 107 kHandler) lo4 hi4 (pHandsTo l f.handlers (q)) [.slice X4 (pHandsTo l f.handlers (q)).length y4], Hold.val (Kd.slice 76 kIns) lo3 hi3 (pCodeTo l f.code f.code.length) [.slice X (pCodeTo l f.code f.code.length).length y3], Hold.box g #[.int .i64 f.params, .int .i64 f.regs, .slice X2 f.caps.length Y2, .slice X (pCodeTo l f.code f.code.length).length y3, .slice X4 (pHandsTo l f.handlers (q)).length y4] 73, Hold.val (Kd.slice 105 kCap) lo2 hi2 (f.caps) [.slice X2 (f.caps).length Y2], Hold.val (Kd.slice 3 (Kd.int .i64)) lo hi xs [.slice (some ae) 302 c7], Hold.val (Kd.slice 4 Kd.bool) vlo lo l [.slice AR l.length cR], Hold.box b5 #[.int .i64 f.params, .int .i64 f.regs, .slice A2 f.caps.length c2, .slice A3 f.code.length c3, .slice A4 f.handlers.length c4] 73, Hold.box (w.heap.size + 1) #[.int .i64 0, .int .i64 0, .slice none 0 0, .slice none 0 0, .slice none 0 0] 73, Hold.box w.heap.size #[.slice (some fa) x.funcs.length c0, .slice A1 x.consts.length c1] 37])) (fun v _ => f.handlers.length - (intOf v).toNat)
  case atStart => exact ⟨0, lo4, none, 0, rfl, by omega, Nat.le_refl _, M6⟩
  case round =>
  clear M6
  obtain ⟨q, hi4, X4, y4, rfl, hq, hhi4, M7⟩ := hrel
  have hpl := pHandsTo_len l f.handlers q
  have z5 := M7.out.box (.tail _ (.tail _ (.tail _ (.tail _ (.tail _ (.tail _ (.head _)))))))
  by_cases hlt : q < f.handlers.length
  rotate_left
  · have hle : ¬ (q : Int) < (f.handlers.length : Int) := by omega
    obtain rfl : q = f.handlers.length := by omega
    have zg := M7.out.box (.tail _ (.tail _ (.head _))); have z1 := M7.out.box (.tail _ (.tail _ (.tail _ (.tail _ (.tail _ (.tail _ (.tail _ (.head _)))))))); have f1 := M7.out.free (.tail _ (.tail _ (.tail _ (.tail _ (.tail _ (.tail _ (.tail _ (.head _))))))))
    have M8 := Aside0.mk (Mem.set (A := [_, _, _, _, _, _, _]) (Mem.set (A := [_, _, _, _, _, _, _]) (Mem.set (A := [_, _, _, _, _, _, _]) (Mem.set (A := [_, _, _, _, _, _, _]) (Mem.set (A := [_, _, _, _, _, _, _]) M7.out 0 (.int .i64 f.params) rfl) 1 (.int .i64 f.regs) rfl) 2 (.slice X2 f.caps.length Y2) rfl) 3 (.slice X (pCodeTo l f.code f.code.length).length y3) rfl) 4 (.slice X4 (pHandsTo l f.handlers f.handlers.length).length y4) rfl)
    go_wp2
    refine bodyPost_ret (results_cell_row rfl _ _ (w.heap.size + 1) 73 #[.int .i64 f.params, .int .i64 f.regs, .slice X2 f.caps.length Y2, .slice X (pCodeTo l f.code f.code.length).length y3, .slice X4 (pHandsTo l f.handlers f.handlers.length).length y4] (0, 0) _ rfl (M8.out.blk (.tail _ (.tail _ (.tail _ (.tail _ (.tail _ (.tail _ (.tail _ (.head _))))))))) hu rfl (by kernel_rfl)) rfl ?_
    exact ⟨_, rfl, kFuncI_mkM _ _ _ (pFunc l f) (M8.out.rowT (.tail _ (.tail _ (.tail _ (.head _))))) (M8.out.rowT (.tail _ (.head _))) (M8.out.rowT (.head _)), M8.out.below⟩
  have hle : (q : Int) < (f.handlers.length : Int) := by omega
  have hq0 : (0 : Int) ≤ (q : Int) := by omega
  obtain ⟨ha, hha, hK, k0, k1, k2⟩ := Handler_at G4.out q hlt
  cases hha
  obtain ⟨h, hhe⟩ : ∃ h, h = el zHandler f.handlers q := ⟨_, rfl⟩
  rw [← hhe] at k0 k1 k2
  have HHE := Aside0.mk hhe; have HHC := Aside0.mk (HH.out h (by rw [hhe]; exact el_mem zHandler hlt))
  have y0 := pw_cell_below M7.out.below k0; have y1 := pw_cell_below M7.out.below k1; have y2 := pw_cell_below M7.out.below k2
  clear hK k0 k1 k2 hhe
  obtain ⟨b12, hb12⟩ : ∃ b : Nat, b = wr.heap.size := ⟨_, rfl⟩
  have M8 := Aside0.mk (M7.out.allocAt hb12 #[.int .i64 h.from_, .int .i64 h.to_, .int .i64 h.target] 107)
  have HYB0 := Aside0.mk (fun (a : Addr) (v : Value) (hcv : wr.cell? a = some v) => pw_cell_below (below_alloc (Below.refl wr.heap.size wr) (.cells #[.int .i64 h.from_, .int .i64 h.to_, .int .i64 h.target] 107)) hcv)
  go_upto_region 24 with fail
  rw [← hb12]
  clear y0 y1 y2 z5
  generalize hwa : wr.alloc (.cells #[.int .i64 h.from_, .int .i64 h.to_, .int .i64 h.target] 107) = wa at M8 HYB0 ⊢
  have HYB := Aside0.mk (fun (a : Addr) {v : Value} (hcv : wr.cell? a = some v) => HYB0.out a v hcv); clear HYB0
  clear hwa hb12
  have z12 := M8.out.box (.head _)
  have HNO := Aside0.mk (fun (hb : pHandB l h = false) => show pHandsTo l f.handlers (q + 1) = pHandsTo l f.handlers q from by
    show (if pHandB l (el zHandler f.handlers q) = true then _ else _) = _
    rw [← HHE.out, if_neg (by rw [hb]; decide)])
  by_cases htl : h.target < (l.length : Int)
  rotate_left
  · have HST := Aside0.mk (HNO.out (by unfold pHandB; rw [decide_eq_false htl]; rfl))
    go_wp2
    go_roundw
    case measure => simp [intOf]; omega
    case rel => exact ⟨q + 1, hi4, X4, y4, by go_num, by omega, hhi4, by rw [HST.out]; exact ⟨M8.out.drop⟩⟩
  obtain ⟨nt, hnt⟩ : ∃ nt : Nat, h.target = nt := ⟨h.target.toNat, by have := HHC.out; omega⟩
  obtain ⟨ra, hra, yb0⟩ := bool_at (Kd.R_reads' (M7.out.row (.tail _ (.tail _ (.tail _ (.tail _ (.tail _ (.head _)))))))).2.2 nt (by omega)
  cases hra
  rw [hnt] at M8 z12 htl
  have hnt0 : (0 : Int) ≤ (nt : Int) := by omega
  have yb := HYB.out _ yb0
  have HNT := Aside0.mk hnt
  clear yb0 hnt
  rcases Bool.eq_false_or_eq_true (el false l nt) with hv | hv
  rotate_left
  · rw [hv] at yb
    have HST := Aside0.mk (HNO.out (by unfold pHandB; rw [HNT.out, Int.toNat_natCast, hv]; simp))
    clear hv
    go_wp2
    go_roundw
    case measure => simp [intOf]; omega
    case rel => exact ⟨q + 1, hi4, X4, y4, by go_num, by omega, hhi4, by rw [HST.out]; exact ⟨M8.out.drop⟩⟩
  rw [hv] at yb
  obtain ⟨nf, hnf⟩ : ∃ nf : Nat, h.from_ = nf := ⟨h.from_.toNat, by have := HHC.out; omega⟩
  obtain ⟨no, hno⟩ : ∃ no : Nat, h.to_ = no := ⟨h.to_.toNat, by have := HHC.out; omega⟩
  have hb3 : nf ≤ 300 ∧ no ≤ 300 ∧ nt ≤ 300 := by have := HHC.out; have := HNT.out; omega
  have HST := Aside0.mk (show pHandsTo l f.handlers (q + 1) = pHandsTo l f.handlers q ++ [⟨ahead l nf, ahead l no, ahead l nt⟩] from by
    show (if pHandB l (el zHandler f.handlers q) = true then _ else _) = _
    rw [← HHE.out, if_pos (by unfold pHandB; rw [HNT.out, Int.toNat_natCast, hv, decide_eq_true htl]; rfl)]
    unfold pHand
    rw [hnf, hno, HNT.out, Int.toNat_natCast, Int.toNat_natCast, Int.toNat_natCast])
  rw [hnf, hno] at M8 z12
  clear hv hnf hno HNO
  have p0 : (0 : Int) ≤ (nf : Int) ∧ (0 : Int) ≤ (no : Int) := by omega
  have p1 : (nf : Int) < 302 ∧ (no : Int) < 302 ∧ (nt : Int) < 302 := by omega
  obtain ⟨p2, p3⟩ := p0
  obtain ⟨p4, p5, p6⟩ := p1
  have HAE := Aside0.mk (show ∀ i : Nat, i ≤ 300 → wa.cell? (ae.add i) = some (.int .i64 (ahead l i)) from fun i hi => by
    obtain ⟨ae2, h1, h2⟩ := int_at (show (Kd.int .i64).C wa (some ae) xs.length xs from (Kd.R_reads' (M8.out.row (.tail _ (.tail _ (.tail _ (.tail _ (.tail _ (.head _)))))))).2.2) i (by have := HXL.out; omega)
    injection h1 with h1
    subst h1
    rw [HXS.out i (by omega)] at h2
    exact h2)
  go_upto_region 25 with fail
  clear yb z12
  refine sz 22 (fun W => W.cell? ⟨g, 4, none⟩ = some (.slice X4 (pHandsTo l f.handlers q).length y4) ∧ W.cell? ⟨b12, 0, none⟩ = some (.int .i64 (nf : Int)) ∧ W.cell? ⟨b12, 1, none⟩ = some (.int .i64 (no : Int)) ∧ W.cell? ⟨b12, 2, none⟩ = some (.int .i64 (nt : Int)) ∧ W.cell? (ae.add nf) = some (.int .i64 (ahead l nf)) ∧ W.cell? (ae.add no) = some (.int .i64 (ahead l no)) ∧ W.cell? (ae.add nt) = some (.int .i64 (ahead l nt))) [19, 21] prS.tab25 prS.bits25 ⟨(M8.out.drew.box (.tail _ (.tail _ (.tail _ (.head _)))) 4).trans rfl, (M8.out.drew.box (.head _) 0).trans rfl, (M8.out.drew.box (.head _) 1).trans rfl, (M8.out.drew.box (.head _) 2).trans rfl, pw_cell_below (below_drew1 (Below.refl _ _)) (HAE.out nf hb3.1), pw_cell_below (below_drew1 (Below.refl _ _)) (HAE.out no hb3.2.1), pw_cell_below (below_drew1 (Below.refl _ _)) (HAE.out nt hb3.2.2)⟩ (fun HT_ HW_ hHeld => ?_)
  have MD := Aside0.mk M8.out.drew.drop; have ME := Aside0.mk M8.out.drew; have HAD := Aside0.mk (show ∀ i : Nat, i ≤ 300 → wa.drew.cell? (ae.add i) = some (.int .i64 (ahead l i)) from fun i hi => pw_cell_below (below_drew1 (Below.refl _ _)) (HAE.out i hi))
  clear HAE M8
  generalize wa.drew = wd at MD ME HAD hHeld ⊢
  refine pz 0 117 ?_; refine pz 2 119 ?_; refine pz 3 120 ?_; refine pz 7 124 ?_; refine pz 8 125 ?_; refine pz 12 129 ?_; refine pz 13 130 ?_; refine tz 1 118 ?_; refine tz 4 121 ?_; refine pz 5 122 ?_; refine tz 6 123 ?_; refine tz 9 126 ?_; refine pz 10 127 ?_; refine tz 11 128 ?_; refine tz 14 131 ?_; refine pz 15 132 ?_; refine tz 16 133 ?_; refine pz 17 134 ?_
  refine ez 18 (some 135) (fun K hK => ?_)
  refine value_ (w1 := ?_) (v := ?_) (by rfl) rfl ?_ ?_
  rotate_left 2
  · go_simp
    constructor
    · rfl
    · rfl
  refine hK.out _ _ ⟨((ME.out.step (below_alloc (Below.refl _ _) _)).box (.tail _ (.tail _ (.tail _ (.head _)))) 4).trans rfl, ((ME.out.step (below_alloc (Below.refl _ _) _)).box (.head _) 0).trans rfl, ((ME.out.step (below_alloc (Below.refl _ _) _)).box (.head _) 1).trans rfl, ((ME.out.step (below_alloc (Below.refl _ _) _)).box (.head _) 2).trans rfl, pw_cell_below (below_alloc (Below.refl _ _) _) (HAD.out nf hb3.1), pw_cell_below (below_alloc (Below.refl _ _) _) (HAD.out no hb3.2.1), pw_cell_below (below_alloc (Below.refl _ _) _) (HAD.out nt hb3.2.2)⟩ (fun hHeld => ?_); clear hK K; refine kz (some 135) ?_
  refine lz 19 (some 136) (fun K hK => ?_)
  have hlw : lo4 ≤ wd.heap.size := Nat.le_trans hhi4 (MD.out.fits _ (.head _)).2
  refine Kd.R_append_step kHandler (w0 := wd) lo4 (by rfl) (.tmp 118) (.tmp 135) 71 107 (.agg #[.int .i64 0, .int .i64 0, .int .i64 0]) 24 rfl Try.underlying71 (by kernel_rfl) rfl (by decide) (by omega) (.slice X4 (pHandsTo l f.handlers q).length y4) (pHandsTo l f.handlers q) (⟨ahead l nf, ahead l no, ahead l nt⟩ : Handler) [.int .i64 (ahead l nf), .int .i64 (ahead l no), .int .i64 (ahead l nt)] (fun k => lo4 ≤ k) (fun _ => False) ?aV ?aX (kHandler_mkM _ _ _ _) (fun _ h => h.elim) (fun k hk => Nat.le_trans hlw hk) (Kd.R_mono (MD.out.row (.head _)) (fun k hk => hk.1)) (Below.refl _ _) hlw (by omega) ?_
  (case aV => first | rfl | (go_simp; done) | (go_simp; rfl))
  (case aX => first | rfl | (go_simp; done) | (go_simp; rfl))
  intro v9 w9 ho hb9 hg9 hat9; clear hg9 hat9
  rw [← HST.out] at ho
  obtain ⟨A9, y9, hv9⟩ := Kd.R_slice ho; subst hv9
  have M9 := Aside0.mk (Mem.grow MD.out (fun h hh => by have hF := HF4.out; simp only [List.mem_cons, List.not_mem_nil, or_false] at hh; rcases hh with rfl | rfl | rfl | rfl | rfl | rfl | rfl | rfl <;> (simp only [Hold.box, Hold.val]; omega)) hb9 ho)
  have hh9 : lo4 ≤ w9.heap.size := Nat.le_trans hlw hb9.size
  clear ho hb9 MD
  refine hK.out _ _ ?_; clear hK K; refine kz (some 136) ?_
  refine pz 20 137 ?_
  refine lz 21 none (fun K hK => ?_)
  have b0 := M9.out.box (.tail _ (.tail _ (.head _))); have b1 := M9.out.free (.tail _ (.tail _ (.head _)))
  refine skip_ (w1 := ?_) (by rfl) rfl ?_ ?_
  rotate_left
  · go_simp
    rfl
  clear b0 b1
  refine hK.out _ _ ?_; clear hK K
  refine dz ?_
  clear hHeld HT_ HW_ ME HAD
  have M10 := Aside0.mk (Mem.set (A := [_, _]) M9.out 4 (.slice A9 (pHandsTo l f.handlers (q + 1)).length y9) rfl); clear M9
  try go_wp2
  go_roundw
  case measure => simp [intOf]; omega
  case rel => first | exact ⟨q + 1, w9.heap.size, A9, y9, by go_num, by omega, hh9, M10⟩ | ((repeat apply Exists.intro); exact ⟨⟨q + 1, w9.heap.size, A9, y9, by go_num, by omega, hh9, M10⟩, rfl⟩)
end Go.Proofs.Ytcbaokflimdjnaa.Flow
end
section
namespace Go.Proofs.Ytcbaokflimdjnaa
open Go.RowKit Go.Proofs.YtcbaokflimdjnaaW.PrintWords Go.Proofs.YtcbaokflimdjnaaW.PrintMore
set_option linter.unusedVariables false
/-- A row whose elements lead to nothing in common. -/
def sliceS {α : Type} (e : Nat) (d : Kd α) : Kd (List α) where
  sz := 1
  E := e :: d.E
  K := (Kd.slice e d).K
  M := fun w base ok xs cs => ∃ v, cs = [v] ∧ Kd.S d e w base ok v xs
  K_len := (Kd.slice e d).K_len
  K_one := (Kd.slice e d).K_one
  K_below := (Kd.slice e d).K_below
  K_of_M := fun ⟨v, h, hs⟩ => (Kd.slice e d).K_of_M ⟨v, h, Kd.S_R hs⟩
  M_mono := fun hok ⟨v, h, hs⟩ => ⟨v, h, Kd.S_mono hs hok⟩
  M_bound := fun ⟨v, h, hs⟩ => ⟨v, h, Kd.S_bound hs⟩
  M_move := fun hm ⟨v, h, hs⟩ => ⟨v, h, Kd.S_move hs hm⟩
  M_lower := fun hb ⟨v, h, hs⟩ => ⟨v, h, Kd.S_lower hs hb⟩
def kImageA : Kd Image := Kd.iso (Kd.pair (sliceS 73 kFuncI) (Kd.slice 100 kConst)) (fun x : Image => (x.funcs, x.consts))
theorem kImageA_K (w : World) (x : Image) (cs : List Value) : kImageA.K w x cs = kImageI.K w x cs := rfl
theorem kImageA_openM {w : World} {base : Nat} {ok : Nat → Prop} {x : Image} {cs : List Value} (h : kImageA.M w base ok x cs) : ∃ v0 v1, cs = [v0, v1] ∧ Kd.S kFuncI 73 w base ok v0 x.funcs ∧ kConst.R 100 w base ok v1 x.consts := by
  obtain ⟨_, _, rfl, ⟨v0, rfl, g0⟩, ⟨v1, rfl, g1⟩⟩ := h
  exact ⟨v0, v1, rfl, g0, g1⟩
theorem kImageA_mkM (w : World) (base : Nat) (ok : Nat → Prop) (x : Image) {v0 : Value} (g0 : Kd.S kFuncI 73 w base ok v0 x.funcs) {v1 : Value} (g1 : kConst.R 100 w base ok v1 x.consts) : kImageA.M w base ok x [v0, v1] := ⟨_, _, rfl, ⟨_, rfl, g0⟩, ⟨_, rfl, g1⟩⟩
end Go.Proofs.Ytcbaokflimdjnaa
end
section
namespace Go.Proofs.Ytcbaokflimdjnaa.Flow
open Go.RowKit Go.Proofs.YtcbaokflimdjnaaW.PrintWords Go.Proofs.YtcbaokflimdjnaaW.PrintLast Go.Proofs.Ytcbaokflimdjnaa.Steps Go.Proofs.YtcbaokflimdjnaaW.PrintMore Go.Proofs.Ytcbaokflimdjnaa.Law Go.Proofs.Ytcbaokflimdjnaa Go.Proofs.Ytcbaokflimdjnaa.QFnExactVerify Go.Proofs.Ytcbaokflimdjnaa.Num
set_option linter.unusedVariables false
set_option linter.unusedSimpArgs false
set_option autoImplicit false
def puS.T7 : Bool × List (List Nat × List Nat) := (true, [([], []), ([0], [0]), ([], []), ([], []), ([2, 3], [2, 3]), ([4], [4]), ([1, 5, 4], [1, 5]), ([0, 1, 2, 3, 4, 5, 6], []), ([7, 6, 6, 0, 1, 2, 3, 4, 5, 6], [6, 7])])
def puS.B7 : List Nat := [0, 1, 0, 0, 12, 28, 63, 127, 255]
theorem puS.tab7 : rtab .any (opsOf Try.f37 7) = puS.T7 := by kernel_rfl
theorem puS.bits7 : waitsOk puS.T7.2 puS.B7 = true := by kernel_rfl
def puI.T8 : Bool × List (List Nat × List Nat) := (true, [([], []), ([0], [0]), ([], []), ([], []), ([2, 3], [2, 3]), ([4], [4]), ([1, 5, 4], [1, 5]), ([0, 1, 2, 3, 4, 5, 6], []), ([7, 6, 6, 0, 1, 2, 3, 4, 5, 6], [6, 7])])
def puI.B8 : List Nat := [0, 1, 0, 0, 12, 28, 63, 127, 255]
theorem puI.tab8 : rtab .any (opsOf Try.f38 8) = puI.T8 := by kernel_rfl
theorem puI.bits8 : waitsOk puI.T8.2 puI.B8 = true := by kernel_rfl
theorem growS {w W w1 : World} {H : List Hold} {lo hi : Nat} {l l1 : List Func} {v v1 : Value} (h : Mem w W (Hold.val (sliceS 73 kFuncI) lo hi l [v] :: H)) (hH : ∀ x ∈ H, x.hi ≤ lo) (hb : Below lo W w1) (hr : Kd.S kFuncI 73 w1 lo (fun k => lo ≤ k) v1 l1) : Mem w w1 (Hold.val (sliceS 73 kFuncI) lo w1.heap.size l1 [v1] :: H) := by
  have hf := (h.fits _ (.head _))
  have hlo : w.heap.size ≤ lo := hf.1
  refine ⟨h.below.trans ⟨hb.os, hb.tape, hb.output, hb.size, fun i hi => hb.block i (Nat.lt_of_lt_of_le hi hlo)⟩, fun x hx => ?_, fun x hx => ?_, ?_⟩
  · rcases List.mem_cons.1 hx with rfl | hx
    · exact ⟨v1, rfl, Kd.S_mono (Kd.S_bound hr) (fun k hk => ⟨hk.1, hk.2.2.1⟩)⟩
    · exact x.mv (fun k _ h2 _ => hb.block k (Nat.lt_of_lt_of_le h2 (hH x hx))) (h.says x (.tail _ hx))
  · rcases List.mem_cons.1 hx with rfl | hx
    · exact ⟨hlo, Nat.le_refl _⟩
    · have := h.fits x (.tail _ hx)
      exact ⟨this.1, Nat.le_trans this.2 hb.size⟩
  · exact List.pairwise_cons.2 ⟨fun x hx => .inl (hH x hx), (List.pairwise_cons.1 h.apart).2⟩
theorem rowS {w W : World} {H : List Hold} {lo hi : Nat} {l : List Func} {v : Value} (h : Mem w W H) (hm : Hold.val (sliceS 73 kFuncI) lo hi l [v] ∈ H) : Kd.S kFuncI 73 W lo (fun k => lo ≤ k ∧ k < hi) v l := by
  obtain ⟨u, e, hs⟩ := h.val hm
  cases e
  exact hs
def pruneB (x : Image) : Bool := decide (verI x = -1)
set_option maxHeartbeats 8000000 in
set_option maxRecDepth 100000 in
theorem cPruneI (x : Image) (A0 : Option Addr) (c0 : Nat) (A1 : Option Addr) (c1 : Nat) (w : World) (l0 : x.funcs.length ≤ c0) (g0 : kFuncI.C w A0 x.funcs.length x.funcs) (l1 : x.consts.length ≤ c1) (g1 : kConst.C w A1 x.consts.length x.consts) (hn : ∀ y ∈ x.consts, 0 ≤ y.num ∧ y.num < 18446744073709551616) :
    Calls Try.prog 38 #[.agg #[.slice A0 x.funcs.length c0, .slice A1 x.consts.length c1]] w fun e w' => ∃ ds, e = .returned (.tuple #[.agg ⟨ds⟩, .bool (pruneB x)]) ∧ kImageA.M w' w.heap.size (fun _ => True) (pruneI x) ds ∧ Below w.heap.size w w' := by
  have hu := Try.underlying37; have hu1 := Try.underlying34; have hu2 := Try.underlying73; have hu3 := Try.underlying35; have hu4 := Try.underlying49
  have G0 := Aside0.mk g0; have G1 := Aside0.mk g1; have HN := Aside0.mk hn; have L0 := Aside0.mk l0; have L1 := Aside0.mk l1
  clear g0 g1 hn l0 l1
  have M0 := Aside0.mk (((Mem.start w).allocAt rfl #[.slice A0 x.funcs.length c0, .slice A1 x.consts.length c1] 37).allocAt (g := w.heap.size + 1) (by simp) #[.slice none 0 0, .slice none 0 0] 37)
  have z0 := M0.out.box (.tail _ (.head _))
  go_enter Try.func38, Try.ntmps38
  go_wp2_with fail
  clear z0
  refine (cVerI x A0 c0 A1 c1 _ L0.out (Kd.C_below G0.out M0.out.below) L1.out (Kd.C_below G1.out M0.out.below) HN.out).mono ?_
  rintro e w1 ⟨rfl, hb⟩
  have M1 := Aside0.mk (M0.out.step hb); clear hb M0
  obtain ⟨vr, hvr⟩ : ∃ vr, vr = verI x := ⟨_, rfl⟩
  rw [← hvr]
  by_cases hv : vr = -1
  rotate_left
  · have hv2 : (vr != -1) = true := by simpa using hv
    have HE := Aside0.mk (show pruneB x = false from by unfold pruneB; rw [← hvr]; exact decide_eq_false hv)
    have HP := Aside0.mk (show pruneI x = ⟨[], []⟩ from by unfold pruneI; rw [← hvr, if_neg hv])
    clear hv hvr
    have b0 := M1.out.box (.head _); have b1 := M1.out.free (.head _)
    have M8 := Aside0.mk (Mem.set (A := []) (Mem.set (A := []) M1.out 0 (.slice none 0 0) rfl) 1 (.slice none 0 0) rfl)
    go_wp2
    refine bodyPost_ret (results_ct rfl _ _ (w.heap.size + 1) 37 #[.slice none 0 0, .slice none 0 0] (0, 0) _ rfl (M8.out.blk (.head _)) hu rfl (by kernel_rfl)) rfl ?_
    exact ⟨_, congrArg Ending.returned (by rw [HE.out]; rfl), by rw [HP.out]; exact kImageA_mkM _ _ _ ⟨[], []⟩ (Kd.S_nil _ _ _ _ _) (Kd.R_nil _ _ _ _ _), M8.out.below⟩
  have hv2 : (vr != -1) = false := by simpa using hv
  have HE := Aside0.mk (show pruneB x = true from by unfold pruneB; rw [← hvr]; exact decide_eq_true hv)
  have HP := Aside0.mk (show pruneI x = ⟨pFuncsTo x x.funcs.length, x.consts⟩ from by unfold pruneI; rw [← hvr, if_pos hv])
  have HOK := Aside0.mk (ver_ok (hvr ▸ hv))
  clear hv hvr
  have hcl := (img_len HOK.out.1).2.2; have hfl := (img_len HOK.out.1).2.1
  obtain ⟨fa, _, _, _, _, _, _, hfa, _⟩ := func_at5 G0.out 0 (img_len HOK.out.1).1
  subst hfa
  have z0 := M1.out.box (.tail _ (.head _))
  go_upto_region 4 with ((with_reducible refine gate_builtin (b := .append) (xs := #[.const (.slice none 0 0), .tmp 15]) rfl ?_); at_builtin; refine Kd.R_append_rows kConst (Rr := kConst.K w1) (w0 := w1) w1.heap.size rfl (.const (.slice none 0 0)) (.tmp 15) 35 100 (.agg #[.int .i64 0, .int .u64 0, .string (⟨#[]⟩ : ByteArray)]) 32 rfl Try.underlying35 (by kernel_rfl) rfl (by decide) (by omega) (.slice none 0 0) [] x.consts _ _ _ (fun _ => True) (fun _ => False) rfl rfl ?aO ?aR ?aM (fun _ h => h.elim) ?aF ?aB ?aS ?aL ?_; (case aR => exact Kd.C_below G1.out (M1.out.step (Below.refl _ _)).below); (case aM => intro _ _ h; have e := kConst_open h; subst e; exact kConst_mkM _ _ _ _); (case aO => exact Kd.R_nil _ _ _ _ _); (case aF => exact fun _ _ => trivial); (case aB => exact (Below.refl _ _)); (case aS => exact Nat.le_refl _); (case aL => simp; omega); intro v6 w6 ho hb hg_ hat_; clear hg_ hat_; rw [List.nil_append] at ho; obtain ⟨XC, YC, hvc⟩ := Kd.R_slice ho; subst hvc; have HA := Aside0.mk ho; have HB := Aside0.mk hb; clear ho hb; have z0 := (M1.out.step HB.out).box (.tail _ (.head _)))
  obtain ⟨g, hg⟩ : ∃ g : Nat, g = w6.heap.size := ⟨_, rfl⟩
  obtain ⟨clo, hclo⟩ : ∃ clo : Nat, clo = w1.heap.size := ⟨_, rfl⟩
  have M2 := Aside0.mk ((M1.out.pushR HB.out HA.out).allocAt hg #[.slice none 0 0, .slice XC x.consts.length YC] 37)
  rw [← hg, ← hclo] at M2
  rw [← hg]
  clear M1 HA HB z0 hclo 
  generalize hwz : w6.alloc (.cells #[.slice none 0 0, .slice XC x.consts.length YC] 37) = wz at M2 ⊢
  clear hwz hg
  have M3 := Aside0.mk (M2.out.push (d := sliceS 73 kFuncI) (x := ([] : List Func)) (cs := [.slice none 0 0]) (Below.refl _ _) ⟨_, rfl, Kd.S_nil _ _ _ _ _⟩)
  have HF := Aside0.mk (show g + 1 ≤ wz.heap.size ∧ g ≤ wz.heap.size ∧ w.heap.size + 2 ≤ wz.heap.size from ⟨(M2.out.fits _ (.head _)).2, (M2.out.fits _ (.tail _ (.head _))).2, (M2.out.fits _ (.tail _ (.tail _ (.head _)))).2⟩)
  obtain ⟨lo, hlo⟩ : ∃ lo : Nat, lo = wz.heap.size := ⟨_, rfl⟩
  rw [← hlo] at M3 HF
  clear hlo M2
  have z0 := M3.out.box (.tail _ (.tail _ (.tail _ (.tail _ (.head _)))))
  go_upto_region 5 with fail
  clear z0
  go_loopw [21] (fun v wx => ∃ (q hi : Nat) (X : Option Addr) (y : Nat), v = .int .i64 q ∧ q ≤ x.funcs.length ∧ lo ≤ hi ∧ Aside0 (Mem w wx [Hold.val (sliceS 73 kFuncI) lo hi (pFuncsTo x (q)) [.slice X (pFuncsTo x (q)).length y], Hold.box g #[.slice X (pFuncsTo x (q)).length y, .slice XC x.consts.length YC] 37, Hold.val (Kd.slice 100 kConst) clo g x.consts [.slice XC x.consts.length YC], Hold.box (w.heap.size + 1) #[.slice none 0 0, .slice none 0 0] 37, Hold.box w.heap.size #[.slice (some fa) x.funcs.length c0, .slice A1 x.consts.length c1] 37])) (fun v _ => x.funcs.length - (intOf v).toNat)
  case atStart => exact ⟨0, lo, none, 0, rfl, by omega, Nat.le_refl _, M3⟩
  case round =>
  clear M3
  obtain ⟨q, hi, X, y, rfl, hq, hhi, M4⟩ := hrel
  have HPL := Aside0.mk (pFuncsTo_len x q)
  have z0 := M4.out.box (.tail _ (.tail _ (.tail _ (.tail _ (.head _)))))
  by_cases hlt : q < x.funcs.length
  rotate_left
  · have hle : ¬ (q : Int) < (x.funcs.length : Int) := by omega
    obtain rfl : q = x.funcs.length := by omega
    have zg := M4.out.box (.tail _ (.head _)); have b0 := M4.out.box (.tail _ (.tail _ (.tail _ (.head _)))); have b1 := M4.out.free (.tail _ (.tail _ (.tail _ (.head _))))
    have M8 := Aside0.mk (Mem.set (A := [_, _, _]) (Mem.set (A := [_, _, _]) M4.out 0 (.slice X (pFuncsTo x x.funcs.length).length y) rfl) 1 (.slice XC x.consts.length YC) rfl)
    go_wp2
    refine bodyPost_ret (results_ct rfl _ _ (w.heap.size + 1) 37 #[.slice X (pFuncsTo x x.funcs.length).length y, .slice XC x.consts.length YC] (0, 0) _ rfl (M8.out.blk (.tail _ (.tail _ (.tail _ (.head _))))) hu rfl (by kernel_rfl)) rfl ?_
    exact ⟨_, congrArg Ending.returned (by rw [HE.out]; rfl), by rw [HP.out]; exact kImageA_mkM _ _ _ ⟨pFuncsTo x x.funcs.length, x.consts⟩ (Kd.S_mono (Kd.S_lower (rowS M8.out (.head _)) (M8.out.fits _ (.head _)).1) (fun _ _ => trivial)) (M8.out.rowT (.tail _ (.tail _ (.head _)))), M8.out.below⟩
  have hle : (q : Int) < (x.funcs.length : Int) := by omega
  have hq0 : (0 : Int) ≤ (q : Int) := by omega
  obtain ⟨f, hfe⟩ : ∃ f, f = el zFunc x.funcs q := ⟨_, rfl⟩
  have HOKF := Aside0.mk (fn_ok HOK.out.1 (el_mem zFunc hlt))
  have HBAD := Aside0.mk (HOK.out.2 q hlt)
  have HST := Aside0.mk (show pFuncsTo x (q + 1) = pFuncsTo x q ++ [pFunc (final x f).reached f] from by rw [hfe]; rfl)
  have CST := Aside0.mk (fun (W : World) (hB : Below w.heap.size w W) (hx0 : W.cell? ⟨w.heap.size, 0, none⟩ = _) (hx1 : W.cell? ⟨w.heap.size, 1, none⟩ = _) => cStates x q HOKF.out hlt w.heap.size fa c0 A1 c1 W hx0 hx1 (Kd.C_below G0.out hB))
  obtain ⟨fa2, A2, c2, A3, c3, A4, c4, hfa2, x0, x1, x2, x3, x4, hcap, hcode, hhan⟩ := func_at5 G0.out q hlt
  cases hfa2
  have HOKG := HOKF
  rw [← hfe] at x0 x1 x2 x3 x4 hcap hcode hhan HOKG HBAD CST
  have HKF := Aside0.mk (fun (W : World) (hB : Below w.heap.size w W) => kFuncI.K_below hB (kFuncI_mk w f hcap.1 hcap.2 hcode.1 hcode.2 hhan.1 hhan.2))
  have y0 := pw_cell_below M4.out.below x0; have y1 := pw_cell_below M4.out.below x1; have y2 := pw_cell_below M4.out.below x2; have y3 := pw_cell_below M4.out.below x3; have y4 := pw_cell_below M4.out.below x4
  have HFL := Aside0.mk ((final_len (x := x) HOKG.out.rg.1 HOKG.out.pr.1).2)
  clear x0 x1 x2 x3 x4 hcap hcode hhan hfe
  obtain ⟨b6, hb6⟩ : ∃ b : Nat, b = wr.heap.size := ⟨_, rfl⟩
  have M5 := Aside0.mk (M4.out.allocAt hb6 #[.int .i64 f.params, .int .i64 f.regs, .slice A2 f.caps.length c2, .slice A3 f.code.length c3, .slice A4 f.handlers.length c4] 73)
  go_upto_region 7 with fail
  rw [← hb6]
  clear y0 y1 y2 y3 y4 z0
  generalize hwa : wr.alloc (.cells #[.int .i64 f.params, .int .i64 f.regs, .slice A2 f.caps.length c2, .slice A3 f.code.length c3, .slice A4 f.handlers.length c4] 73) = wa at M5 ⊢
  clear hwa hb6
  go_wp2_with fail
  refine (CST.out wa M5.out.below ((M5.out.box (.tail _ (.tail _ (.tail _ (.tail _ (.tail _ (.head _)))))) 0).trans rfl) ((M5.out.box (.tail _ (.tail _ (.tail _ (.tail _ (.tail _ (.head _)))))) 1).trans rfl)).mono ?_
  rintro e w3 ⟨v1, v2, rfl, _, hgd, hb3⟩
  have hrr := (hgd HBAD.out).2
  obtain ⟨l, hle_⟩ : ∃ l, l = (final x f).reached := ⟨_, rfl⟩
  rw [← hle_] at hrr HST HFL
  obtain ⟨AR, cR, rfl⟩ := Kd.R_slice hrr
  have M6 := Aside0.mk (M5.out.pushR hb3 hrr)
  clear hgd hrr hb3 M5 M4 hle_ CST
  go_upto_region 8 with fail
  refine sz 9 (fun W => W.cell? ⟨g, 0, none⟩ = some (.slice X (pFuncsTo x q).length y) ∧ W.cell? ⟨b6, 0, none⟩ = some (.int .i64 f.params) ∧ W.cell? ⟨b6, 1, none⟩ = some (.int .i64 f.regs) ∧ W.cell? ⟨b6, 2, none⟩ = some (.slice A2 f.caps.length c2) ∧ W.cell? ⟨b6, 3, none⟩ = some (.slice A3 f.code.length c3) ∧ W.cell? ⟨b6, 4, none⟩ = some (.slice A4 f.handlers.length c4)) [6, 8] puI.tab8 puI.bits8 ⟨(M6.out.drew.box (.tail _ (.tail _ (.tail _ (.head _)))) 0).trans rfl, (M6.out.drew.box (.tail _ (.head _)) 0).trans rfl, (M6.out.drew.box (.tail _ (.head _)) 1).trans rfl, (M6.out.drew.box (.tail _ (.head _)) 2).trans rfl, (M6.out.drew.box (.tail _ (.head _)) 3).trans rfl, (M6.out.drew.box (.tail _ (.head _)) 4).trans rfl⟩ (fun HT_ HW_ hHeld => ?_)
  have MD := Aside0.mk M6.out.drew
  clear M6
  generalize w3.drew = wd at MD hHeld ⊢
  refine pz 0 32 ?_; refine pz 3 35 ?_; refine tz 1 33 ?_; refine tz 2 34 ?_
  refine ez 4 (some 36) (fun K hK => ?_)
  refine gz Try.func69 #[.agg #[.int .i64 f.params, .int .i64 f.regs, .slice A2 f.caps.length c2, .slice A3 f.code.length c3, .slice A4 f.handlers.length c4], .slice AR l.length cR] ?_
  refine (cPrunedI f l _ AR cR wd (HKF.out wd MD.out.below) (Kd.R_reads' (MD.out.row (.head _))).2.2 HFL.out HOKG.out.kl.2 HOKG.out.hl HOKG.out.cl HOKG.out.code HOKG.out.hand).mono ?_
  rintro e w5 ⟨ds, rfl, hm, hb⟩
  obtain ⟨u2, u3, u4, rfl, _, _, _⟩ := kFuncI_openM hm
  have ME := Aside0.mk (MD.out.step hb); have HM5 := Aside0.mk hm; have HS5 := Aside0.mk hb.size; have HHI := Aside0.mk (MD.out.fits _ (.tail _ (.tail _ (.head _)))).2
  clear hm hb
  refine ⟨_, rfl, ?_⟩
  refine hK.out _ _ ⟨(ME.out.box (.tail _ (.tail _ (.tail _ (.head _)))) 0).trans rfl, (ME.out.box (.tail _ (.head _)) 0).trans rfl, (ME.out.box (.tail _ (.head _)) 1).trans rfl, (ME.out.box (.tail _ (.head _)) 2).trans rfl, (ME.out.box (.tail _ (.head _)) 3).trans rfl, (ME.out.box (.tail _ (.head _)) 4).trans rfl⟩ (fun hHeld => ?_); clear hK K; refine kz (some 36) ?_
  refine ez 5 (some 37) (fun K hK => ?_)
  refine value_ (w1 := ?_) (v := ?_) (by rfl) rfl ?_ ?_
  rotate_left 2
  · go_simp
    constructor
    · rfl
    · rfl
  refine hK.out _ _ ⟨((ME.out.step (below_alloc (Below.refl _ _) _)).box (.tail _ (.tail _ (.tail _ (.head _)))) 0).trans rfl, ((ME.out.step (below_alloc (Below.refl _ _) _)).box (.tail _ (.head _)) 0).trans rfl, ((ME.out.step (below_alloc (Below.refl _ _) _)).box (.tail _ (.head _)) 1).trans rfl, ((ME.out.step (below_alloc (Below.refl _ _) _)).box (.tail _ (.head _)) 2).trans rfl, ((ME.out.step (below_alloc (Below.refl _ _) _)).box (.tail _ (.head _)) 3).trans rfl, ((ME.out.step (below_alloc (Below.refl _ _) _)).box (.tail _ (.head _)) 4).trans rfl⟩ (fun hHeld => ?_); clear hK K; refine kz (some 37) ?_
  refine lz 6 (some 38) (fun K hK => ?_)
  have hlw : lo ≤ wd.heap.size := Nat.le_trans hhi HHI.out
  have hlw5 : lo ≤ w5.heap.size := Nat.le_trans hlw HS5.out
  have hhi5 : hi ≤ wd.heap.size := HHI.out
  have hpl := HPL.out
  refine Kd.S_append_step kFuncI (w0 := w5) lo (by rfl) (.tmp 33) (.tmp 37) 34 73 (.agg #[.int .i64 0, .int .i64 0, .slice none 0 0, .slice none 0 0, .slice none 0 0]) 88 rfl Try.underlying34 (by kernel_rfl) rfl (by decide) (by omega) (.slice X (pFuncsTo x q).length y) (pFuncsTo x q) (pFunc l f) [.int .i64 (pFunc l f).params, .int .i64 (pFunc l f).regs, u2, u3, u4] (fun k => lo ≤ k) (fun k => wd.heap.size ≤ k ∧ k < w5.heap.size) ?aV ?aX ?aP ?aK (fun k hk => Nat.le_trans hlw5 hk) ?aO (Below.refl _ _) hlw5 (by omega) ?_
  (case aV => first | rfl | (go_simp; done) | (go_simp; rfl))
  (case aX => first | rfl | (go_simp; done) | (go_simp; rfl))
  (case aP => exact kFuncI.M_lower hlw (kFuncI.M_mono (fun k hk => ⟨hk.2.1, hk.2.2.1⟩) (kFuncI.M_bound HM5.out)))
  (case aK => exact fun k hk => ⟨Nat.le_trans hlw hk.1, fun e => by have h1 := (Kd.S_R (rowS ME.out (.tail _ (.tail _ (.head _))))).1 k e.symm; have h2 : k < hi := h1.2; have h3 : wd.heap.size ≤ k := hk.1; omega⟩)
  (case aO => exact Kd.S_mono (rowS ME.out (.tail _ (.tail _ (.head _)))) (fun k hk => ⟨hk.1, fun h => by have h2 : k < hi := hk.2; have h3 : wd.heap.size ≤ k := h.1; omega⟩))
  intro v9 w9 ho hb9 hg9 hat9; clear hg9 hat9
  rw [← HST.out] at ho
  obtain ⟨A9, y9, hv9⟩ := Kd.R_slice (Kd.S_R ho); subst hv9
  have M9 := Aside0.mk (growS (ME.out.drop.drop) (fun h hh => by have hF := HF.out; simp only [List.mem_cons, List.not_mem_nil, or_false] at hh; rcases hh with rfl | rfl | rfl | rfl <;> (simp only [Hold.box, Hold.val]; omega)) hb9 ho)
  have hh9 : lo ≤ w9.heap.size := Nat.le_trans hlw5 hb9.size
  clear ho hb9 ME MD
  refine hK.out _ _ ?_; clear hK K; refine kz (some 38) ?_
  refine pz 7 39 ?_
  refine lz 8 none (fun K hK => ?_)
  have b0 := M9.out.box (.tail _ (.head _)); have b1 := M9.out.free (.tail _ (.head _))
  refine skip_ (w1 := ?_) (by rfl) rfl ?_ ?_
  rotate_left
  · go_simp
    rfl
  clear b0 b1
  refine hK.out _ _ ?_; clear hK K
  refine dz ?_
  clear hHeld HT_ HW_
  have M10 := Aside0.mk (Mem.set (A := [_]) M9.out 0 (.slice A9 (pFuncsTo x (q + 1)).length y9) rfl); clear M9
  try go_wp2
  go_roundw
  case measure => simp [intOf]; omega
  case rel => first | exact ⟨q + 1, w9.heap.size, A9, y9, by go_num, by omega, hh9, M10⟩ | ((repeat apply Exists.intro); exact ⟨⟨q + 1, w9.heap.size, A9, y9, by go_num, by omega, hh9, M10⟩, rfl⟩)
set_option maxHeartbeats 8000000 in
set_option maxRecDepth 100000 in
theorem cPruneS (x : Image) (A0 : Option Addr) (c0 : Nat) (A1 : Option Addr) (c1 : Nat) (w : World) (l0 : x.funcs.length ≤ c0) (g0 : kFuncI.C w A0 x.funcs.length x.funcs) (l1 : x.consts.length ≤ c1) (g1 : kConst.C w A1 x.consts.length x.consts) (hn : ∀ y ∈ x.consts, 0 ≤ y.num ∧ y.num < 18446744073709551616) :
    Calls Try.prog 37 #[.agg #[.slice A0 x.funcs.length c0, .slice A1 x.consts.length c1]] w fun e w' => ∃ ds, e = .returned (.tuple #[.agg ⟨ds⟩, .bool (pruneB x)]) ∧ kImageA.M w' w.heap.size (fun _ => True) (pruneI x) ds ∧ Below w.heap.size w w' := by
  have hu := Try.underlying37; have hu1 := Try.underlying34; have hu2 := Try.underlying73; have hu3 := Try.underlying35; have hu4 := Try.underlying49
  have G0 := Aside0.mk g0; have G1 := Aside0.mk g1; have HN := Aside0.mk hn; have L0 := Aside0.mk l0; have L1 := Aside0.mk l1
  clear g0 g1 hn l0 l1
  have M0 := Aside0.mk (((Mem.start w).allocAt rfl #[.slice A0 x.funcs.length c0, .slice A1 x.consts.length c1] 37).allocAt (g := w.heap.size + 1) (by simp) #[.slice none 0 0, .slice none 0 0] 37)
  have z0 := M0.out.box (.tail _ (.head _))
  go_enter Try.func37, Try.ntmps37
  go_wp2_with fail
  clear z0
  refine (cVerS x A0 c0 A1 c1 _ L0.out (Kd.C_below G0.out M0.out.below) L1.out (Kd.C_below G1.out M0.out.below) HN.out).mono ?_
  rintro e w1 ⟨rfl, hb⟩
  have M1 := Aside0.mk (M0.out.step hb); clear hb M0
  obtain ⟨vr, hvr⟩ : ∃ vr, vr = verI x := ⟨_, rfl⟩
  rw [← hvr]
  by_cases hv : vr = -1
  rotate_left
  · have hv2 : (vr != -1) = true := by simpa using hv
    have HE := Aside0.mk (show pruneB x = false from by unfold pruneB; rw [← hvr]; exact decide_eq_false hv)
    have HP := Aside0.mk (show pruneI x = ⟨[], []⟩ from by unfold pruneI; rw [← hvr, if_neg hv])
    clear hv hvr
    have b0 := M1.out.box (.head _); have b1 := M1.out.free (.head _)
    have M8 := Aside0.mk (Mem.set (A := []) (Mem.set (A := []) M1.out 0 (.slice none 0 0) rfl) 1 (.slice none 0 0) rfl)
    go_wp2
    refine bodyPost_ret (results_ct rfl _ _ (w.heap.size + 1) 37 #[.slice none 0 0, .slice none 0 0] (0, 0) _ rfl (M8.out.blk (.head _)) hu rfl (by kernel_rfl)) rfl ?_
    exact ⟨_, congrArg Ending.returned (by rw [HE.out]; rfl), by rw [HP.out]; exact kImageA_mkM _ _ _ ⟨[], []⟩ (Kd.S_nil _ _ _ _ _) (Kd.R_nil _ _ _ _ _), M8.out.below⟩
  have hv2 : (vr != -1) = false := by simpa using hv
  have HE := Aside0.mk (show pruneB x = true from by unfold pruneB; rw [← hvr]; exact decide_eq_true hv)
  have HP := Aside0.mk (show pruneI x = ⟨pFuncsTo x x.funcs.length, x.consts⟩ from by unfold pruneI; rw [← hvr, if_pos hv])
  have HOK := Aside0.mk (ver_ok (hvr ▸ hv))
  clear hv hvr
  have hcl := (img_len HOK.out.1).2.2; have hfl := (img_len HOK.out.1).2.1
  obtain ⟨fa, _, _, _, _, _, _, hfa, _⟩ := func_at5 G0.out 0 (img_len HOK.out.1).1
  subst hfa
  have z0 := M1.out.box (.tail _ (.head _))
  go_upto_region 4 with (first | ((with_reducible refine gate_dst (N := 10) rfl ?_); refine Kd.R_lit kConst (w0 := w1) w1.heap.size 100 ?hg (N := 10) ?hd (xs := ([] : List Const)) (inner := []) (ok := fun _ => True) (okp := fun _ => True) ?hr ?hp (fun _ hk => hk) trivial (Below.refl _ _) (Nat.le_refl _) (by simp) ?_; (case hd => rfl); (case hg => rfl); (case hr => first | (go_simp; done) | (go_simp; rfl)); (case hp => exact (Reps.none _ _)); intro v5 w5 ho hb hg_ hnew_; clear hg_ hnew_; have HO5 := Aside0.mk ho; have HB5 := Aside0.mk hb; clear ho hb; have z0 := (M1.out.step HB5.out).box (.tail _ (.head _))) | ((with_reducible refine gate_builtin (b := .append) (xs := #[.tmp 10, .tmp 12]) rfl ?_); at_builtin; refine Kd.R_append_rows kConst (Rr := kConst.K w5) (w0 := w1) w1.heap.size rfl (.tmp 10) (.tmp 12) 35 100 (.agg #[.int .i64 0, .int .u64 0, .string (⟨#[]⟩ : ByteArray)]) 32 rfl Try.underlying35 (by kernel_rfl) rfl (by decide) (by omega) v5 [] x.consts _ _ _ (fun _ => True) (fun _ => False) rfl rfl ?aO ?aR ?aM (fun _ h => h.elim) ?aF ?aB ?aS ?aL ?_; (case aR => exact Kd.C_below G1.out (M1.out.step HB5.out).below); (case aM => intro _ _ h; have e := kConst_open h; subst e; exact kConst_mkM _ _ _ _); (case aO => exact HO5.out); (case aF => exact fun _ _ => trivial); (case aB => exact HB5.out); (case aS => exact HB5.out.size); (case aL => simp; omega); intro v6 w6 ho hb hg_ hat_; clear hg_ hat_; rw [List.nil_append] at ho; obtain ⟨XC, YC, hvc⟩ := Kd.R_slice ho; subst hvc; have HA := Aside0.mk ho; have HB := Aside0.mk hb; clear ho hb))
  obtain ⟨g, hg⟩ : ∃ g : Nat, g = w6.heap.size := ⟨_, rfl⟩
  obtain ⟨clo, hclo⟩ : ∃ clo : Nat, clo = w1.heap.size := ⟨_, rfl⟩
  have M2 := Aside0.mk ((M1.out.pushR HB.out HA.out).allocAt hg #[.slice none 0 0, .slice XC x.consts.length YC] 37)
  rw [← hg, ← hclo] at M2
  rw [← hg]
  clear M1 HA HB z0 hclo 
  generalize hwz : w6.alloc (.cells #[.slice none 0 0, .slice XC x.consts.length YC] 37) = wz at M2 ⊢
  clear hwz hg
  have M3 := Aside0.mk (M2.out.push (d := sliceS 73 kFuncI) (x := ([] : List Func)) (cs := [.slice none 0 0]) (Below.refl _ _) ⟨_, rfl, Kd.S_nil _ _ _ _ _⟩)
  have HF := Aside0.mk (show g + 1 ≤ wz.heap.size ∧ g ≤ wz.heap.size ∧ w.heap.size + 2 ≤ wz.heap.size from ⟨(M2.out.fits _ (.head _)).2, (M2.out.fits _ (.tail _ (.head _))).2, (M2.out.fits _ (.tail _ (.tail _ (.head _)))).2⟩)
  obtain ⟨lo, hlo⟩ : ∃ lo : Nat, lo = wz.heap.size := ⟨_, rfl⟩
  rw [← hlo] at M3 HF
  clear hlo M2
  have z0 := M3.out.box (.tail _ (.tail _ (.tail _ (.tail _ (.head _)))))
  go_upto_region 5 with fail
  clear z0
  go_loopw [5] (fun v wx => ∃ (q hi : Nat) (X : Option Addr) (y : Nat), v = .int .i64 q ∧ q ≤ x.funcs.length ∧ lo ≤ hi ∧ Aside0 (Mem w wx [Hold.val (sliceS 73 kFuncI) lo hi (pFuncsTo x (q)) [.slice X (pFuncsTo x (q)).length y], Hold.box g #[.slice X (pFuncsTo x (q)).length y, .slice XC x.consts.length YC] 37, Hold.val (Kd.slice 100 kConst) clo g x.consts [.slice XC x.consts.length YC], Hold.box (w.heap.size + 1) #[.slice none 0 0, .slice none 0 0] 37, Hold.box w.heap.size #[.slice (some fa) x.funcs.length c0, .slice A1 x.consts.length c1] 37])) (fun v _ => x.funcs.length - (intOf v).toNat)
  case atStart => exact ⟨0, lo, none, 0, rfl, by omega, Nat.le_refl _, M3⟩
  case round =>
  clear M3
  obtain ⟨q, hi, X, y, rfl, hq, hhi, M4⟩ := hrel
  have HPL := Aside0.mk (pFuncsTo_len x q)
  have z0 := M4.out.box (.tail _ (.tail _ (.tail _ (.tail _ (.head _)))))
  by_cases hlt : q < x.funcs.length
  rotate_left
  · have hle : ¬ (q : Int) < (x.funcs.length : Int) := by omega
    obtain rfl : q = x.funcs.length := by omega
    have zg := M4.out.box (.tail _ (.head _)); have b0 := M4.out.box (.tail _ (.tail _ (.tail _ (.head _)))); have b1 := M4.out.free (.tail _ (.tail _ (.tail _ (.head _))))
    have M8 := Aside0.mk (Mem.set (A := [_, _, _]) (Mem.set (A := [_, _, _]) M4.out 0 (.slice X (pFuncsTo x x.funcs.length).length y) rfl) 1 (.slice XC x.consts.length YC) rfl)
    go_wp2
    refine bodyPost_ret (results_ct rfl _ _ (w.heap.size + 1) 37 #[.slice X (pFuncsTo x x.funcs.length).length y, .slice XC x.consts.length YC] (0, 0) _ rfl (M8.out.blk (.tail _ (.tail _ (.tail _ (.head _))))) hu rfl (by kernel_rfl)) rfl ?_
    exact ⟨_, congrArg Ending.returned (by rw [HE.out]; rfl), by rw [HP.out]; exact kImageA_mkM _ _ _ ⟨pFuncsTo x x.funcs.length, x.consts⟩ (Kd.S_mono (Kd.S_lower (rowS M8.out (.head _)) (M8.out.fits _ (.head _)).1) (fun _ _ => trivial)) (M8.out.rowT (.tail _ (.tail _ (.head _)))), M8.out.below⟩
  have hle : (q : Int) < (x.funcs.length : Int) := by omega
  have hq0 : (0 : Int) ≤ (q : Int) := by omega
  obtain ⟨f, hfe⟩ : ∃ f, f = el zFunc x.funcs q := ⟨_, rfl⟩
  have HOKF := Aside0.mk (fn_ok HOK.out.1 (el_mem zFunc hlt))
  have HBAD := Aside0.mk (HOK.out.2 q hlt)
  have HST := Aside0.mk (show pFuncsTo x (q + 1) = pFuncsTo x q ++ [pFunc (final x f).reached f] from by rw [hfe]; rfl)
  have CST := Aside0.mk (fun (W : World) (hB : Below w.heap.size w W) => cPrunedS x q (some fa) c0 A1 c1 W L0.out (Kd.C_below G0.out hB) L1.out (Kd.C_below G1.out hB) HN.out HOK.out.1 hlt HBAD.out)
  rw [← hfe] at CST
  clear hfe
  go_upto_region 7 with fail
  clear z0
  refine sz 9 (fun W => W.cell? ⟨g, 0, none⟩ = some (.slice X (pFuncsTo x q).length y) ∧ W.cell? ⟨w.heap.size, 0, none⟩ = some (.slice (some fa) x.funcs.length c0) ∧ W.cell? ⟨w.heap.size, 1, none⟩ = some (.slice A1 x.consts.length c1)) [6, 8] puS.tab7 puS.bits7 ⟨(M4.out.drew.box (.tail _ (.head _)) 0).trans rfl, (M4.out.drew.box (.tail _ (.tail _ (.tail _ (.tail _ (.head _))))) 0).trans rfl, (M4.out.drew.box (.tail _ (.tail _ (.tail _ (.tail _ (.head _))))) 1).trans rfl⟩ (fun HT_ HW_ hHeld => ?_)
  have MD := Aside0.mk M4.out.drew
  clear M4
  generalize wr.drew = wd at MD hHeld ⊢
  refine pz 0 22 ?_; refine pz 3 25 ?_; refine tz 1 23 ?_; refine tz 2 24 ?_
  refine ez 4 (some 26) (fun K hK => ?_)
  refine gz Try.func68 #[.agg #[.slice (some fa) x.funcs.length c0, .slice A1 x.consts.length c1], .int .i64 q] ?_
  refine (CST.out wd MD.out.below).mono ?_
  rintro e w5 ⟨ds, rfl, hm, hb⟩
  obtain ⟨u2, u3, u4, rfl, _, _, _⟩ := kFuncI_openM hm
  have ME := Aside0.mk (MD.out.step hb); have HM5 := Aside0.mk hm; have HS5 := Aside0.mk hb.size; have HHI := Aside0.mk (MD.out.fits _ (.head _)).2
  clear hm hb
  refine ⟨_, rfl, ?_⟩
  refine hK.out _ _ ⟨(ME.out.box (.tail _ (.head _)) 0).trans rfl, (ME.out.box (.tail _ (.tail _ (.tail _ (.tail _ (.head _))))) 0).trans rfl, (ME.out.box (.tail _ (.tail _ (.tail _ (.tail _ (.head _))))) 1).trans rfl⟩ (fun hHeld => ?_); clear hK K; refine kz (some 26) ?_
  refine ez 5 (some 27) (fun K hK => ?_)
  refine value_ (w1 := ?_) (v := ?_) (by rfl) rfl ?_ ?_
  rotate_left 2
  · go_simp
    constructor
    · rfl
    · rfl
  refine hK.out _ _ ⟨((ME.out.step (below_alloc (Below.refl _ _) _)).box (.tail _ (.head _)) 0).trans rfl, ((ME.out.step (below_alloc (Below.refl _ _) _)).box (.tail _ (.tail _ (.tail _ (.tail _ (.head _))))) 0).trans rfl, ((ME.out.step (below_alloc (Below.refl _ _) _)).box (.tail _ (.tail _ (.tail _ (.tail _ (.head _))))) 1).trans rfl⟩ (fun hHeld => ?_); clear hK K; refine kz (some 27) ?_
  refine lz 6 (some 28) (fun K hK => ?_)
  have hlw : lo ≤ wd.heap.size := Nat.le_trans hhi HHI.out
  have hlw5 : lo ≤ w5.heap.size := Nat.le_trans hlw HS5.out
  have hhi5 : hi ≤ wd.heap.size := HHI.out
  have hpl := HPL.out
  refine Kd.S_append_step kFuncI (w0 := w5) lo (by rfl) (.tmp 23) (.tmp 27) 34 73 (.agg #[.int .i64 0, .int .i64 0, .slice none 0 0, .slice none 0 0, .slice none 0 0]) 88 rfl Try.underlying34 (by kernel_rfl) rfl (by decide) (by omega) (.slice X (pFuncsTo x q).length y) (pFuncsTo x q) (pFunc (final x f).reached f) [.int .i64 (pFunc (final x f).reached f).params, .int .i64 (pFunc (final x f).reached f).regs, u2, u3, u4] (fun k => lo ≤ k) (fun k => wd.heap.size ≤ k ∧ k < w5.heap.size) ?aV ?aX ?aP ?aK (fun k hk => Nat.le_trans hlw5 hk) ?aO (Below.refl _ _) hlw5 (by omega) ?_
  (case aV => first | rfl | (go_simp; done) | (go_simp; rfl))
  (case aX => first | rfl | (go_simp; done) | (go_simp; rfl))
  (case aP => exact kFuncI.M_lower hlw (kFuncI.M_mono (fun k hk => ⟨hk.2.1, hk.2.2.1⟩) (kFuncI.M_bound HM5.out)))
  (case aK => exact fun k hk => ⟨Nat.le_trans hlw hk.1, fun e => by have h1 := (Kd.S_R (rowS ME.out (.head _))).1 k e.symm; have h2 : k < hi := h1.2; have h3 : wd.heap.size ≤ k := hk.1; omega⟩)
  (case aO => exact Kd.S_mono (rowS ME.out (.head _)) (fun k hk => ⟨hk.1, fun h => by have h2 : k < hi := hk.2; have h3 : wd.heap.size ≤ k := h.1; omega⟩))
  intro v9 w9 ho hb9 hg9 hat9; clear hg9 hat9
  rw [← HST.out] at ho
  obtain ⟨A9, y9, hv9⟩ := Kd.R_slice (Kd.S_R ho); subst hv9
  have M9 := Aside0.mk (growS (ME.out) (fun h hh => by have hF := HF.out; simp only [List.mem_cons, List.not_mem_nil, or_false] at hh; rcases hh with rfl | rfl | rfl | rfl <;> (simp only [Hold.box, Hold.val]; omega)) hb9 ho)
  have hh9 : lo ≤ w9.heap.size := Nat.le_trans hlw5 hb9.size
  clear ho hb9 ME MD
  refine hK.out _ _ ?_; clear hK K; refine kz (some 28) ?_
  refine pz 7 29 ?_
  refine lz 8 none (fun K hK => ?_)
  have b0 := M9.out.box (.tail _ (.head _)); have b1 := M9.out.free (.tail _ (.head _))
  refine skip_ (w1 := ?_) (by rfl) rfl ?_ ?_
  rotate_left
  · go_simp
    rfl
  clear b0 b1
  refine hK.out _ _ ?_; clear hK K
  refine dz ?_
  clear hHeld HT_ HW_
  have M10 := Aside0.mk (Mem.set (A := [_]) M9.out 0 (.slice A9 (pFuncsTo x (q + 1)).length y9) rfl); clear M9
  try go_wp2
  go_roundw
  case measure => simp [intOf]; omega
  case rel => first | exact ⟨q + 1, w9.heap.size, A9, y9, by go_num, by omega, hh9, M10⟩ | ((repeat apply Exists.intro); exact ⟨⟨q + 1, w9.heap.size, A9, y9, by go_num, by omega, hh9, M10⟩, rfl⟩)
end Go.Proofs.Ytcbaokflimdjnaa.Flow
end
