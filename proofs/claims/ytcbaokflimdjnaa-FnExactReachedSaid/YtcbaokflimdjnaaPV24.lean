/- Part 24 of the proof: general lemmas, contracts of functions, walks. No condition of its own. -/
import Derived.Test.YtcbaokflimdjnaaPV21
import Derived.Test.YtcbaokflimdjnaaPV23
section
namespace Go.Proofs.Ytcbaokflimdjnaa.Flow
open Go.RowKit Go.Proofs.YtcbaokflimdjnaaW.PrintWords Go.Proofs.YtcbaokflimdjnaaW.PrintLast Go.Proofs.Ytcbaokflimdjnaa.Steps Go.Proofs.YtcbaokflimdjnaaW.PrintMore Go.Proofs.Ytcbaokflimdjnaa.Law Go.Proofs.Ytcbaokflimdjnaa Go.Proofs.Ytcbaokflimdjnaa.QFnExactVerify Go.Proofs.Ytcbaokflimdjnaa.Num Go.Proofs.Ytcbaokflimdjnaa.PureJoin
set_option linter.unusedVariables false
set_option linter.unusedSimpArgs false
set_option autoImplicit false
def statesS.T2 : Bool × List (List Nat × List Nat) := (true, [([], []), ([0], [0]), ([1], [1]), ([2, 2], [2]), ([], []), ([4], [4]), ([5], [5]), ([6, 6], [6]), ([3, 7], [3, 7]), ([8], [8]), ([9, 0, 1, 2, 3, 4, 5, 6, 7, 8, 9], [9])])
def statesS.B2 : List Nat := [0, 1, 3, 7, 0, 16, 48, 112, 255, 511, 1023]
theorem statesS.tab2 : rtab .any (opsOf Try.f66 2) = statesS.T2 := by kernel_rfl
theorem statesS.bits2 : waitsOk statesS.T2.2 statesS.B2 = true := by kernel_rfl
def statesS.T22 : Bool × List (List Nat × List Nat) := (true, [([], []), ([], []), ([1], [1]), ([], []), ([], []), ([4], [4]), ([3, 5], [3, 5]), ([6], [6]), ([0, 2, 7, 6], [0, 2, 7])])
def statesS.B22 : List Nat := [0, 0, 2, 0, 0, 16, 56, 120, 255]
theorem statesS.tab22 : rtab .any (opsOf Try.f66 22) = statesS.T22 := by kernel_rfl
theorem statesS.bits22 : waitsOk statesS.T22.2 statesS.B22 = true := by kernel_rfl
theorem Run.old {t : TypeId} {cs : Array Value} {d g lo : Nat} {w0 W : World} {r : Fl} {vl vr vt : Value} (h : Run t cs d g lo w0 W r vl vr vt) {b : Nat} {o : Obj} (hb : W.heap[b]? = some o) (h1 : b < lo) (h2 : b < g) : BOk g vl vr vt W b o :=
  ⟨hb, by omega, fun e => by have := Kd.R_base h.L b e.symm; omega, fun e => by have := Kd.R_base h.B b e.symm; omega, fun e => by have := Kd.Q_base h.Q b e.symm; omega⟩
set_option maxHeartbeats 8000000 in
set_option maxRecDepth 100000 in
theorem cStatesS (x : Image) (j : Nat) (ok : FnOk x (el zFunc x.funcs j)) (hj : j < x.funcs.length) (A0 : Option Addr) (c0 : Nat) (A1 : Option Addr) (c1 : Nat) (w : World) (l0 : x.funcs.length ≤ c0) (g0 : kFuncI.C w A0 x.funcs.length x.funcs) :
    Calls Try.prog 66 #[.agg #[.slice A0 x.funcs.length c0, .slice A1 x.consts.length c1], .int .i64 j] w fun e w' => ∃ (g lo : Nat) (vl vr vt : Value) (r : Fl), e = .returned (.pointer (some ⟨g, 0, none⟩)) ∧ Run 89 #[vl, vr, vt, .bool r.bad] r.k g lo w w' r vl vr vt ∧ r.bad = (final x (el zFunc x.funcs j)).bad ∧ (r.bad = false → r = final x (el zFunc x.funcs j)) := by
  have hu := Try.underlying31; have hu1 := Try.underlying48; have hu2 := Try.underlying73; have hu3 := Try.underlying26; have hu4 := Try.underlying49; have hu5 := Try.underlying34; have hu6 := Try.underlying37; have hu7 := Try.underlying89; have hu8 := Try.underlying70; have hu9 := Try.underlying76; have hu10 := Try.underlying107; have hu11 := Try.underlying71
  obtain ⟨fa, A2, c2, A3, c3, A4, c4, hfa, x0, x1, x2, x3, x4, hcap, hcode, hhan⟩ := func_at5 g0 j hj
  cases hfa
  have HMAY := Aside0.mk (fun (s : State) (i : Ins) (AR : Option Addr) (cR : Nat) (W : World) (hB : Below w.heap.size w W) (hr : (Kd.int .i64).C W AR s.regs.length s.regs) (hc : s.regs.length ≤ cR) (hl : s.regs.length ≤ 1048576) (hi : i ∈ (el zFunc x.funcs j).code) => cMayS x j s i (some fa) c0 A1 c1 AR cR W l0 (Kd.C_below g0 hB) hj hr hc hl (by have := ok.fl; omega) (ok.code i hi).1 (ok.code i hi).2.1 (ok.code i hi).2.2 (by have := ok.cl; omega))
  have hj0 : (0 : Int) ≤ (j : Int) := by omega
  have hj1 : (j : Int) < (x.funcs.length : Int) := by omega
  obtain ⟨f, hfe⟩ : ∃ f, f = el zFunc x.funcs j := ⟨_, rfl⟩
  rw [← hfe] at x0 x1 x2 x3 x4 hcode hhan HMAY ok ⊢
  have OK := Aside0.mk ok; have HC := Aside0.mk hcode; have HH := Aside0.mk hhan
  have hkl := ok.kl; have hhl := ok.hl; have hrg := ok.rg; have hpm := ok.pr
  clear hfe g0 hcap hcode hhan ok hj l0
  obtain ⟨n, hn⟩ : ∃ n : Nat, f.code.length = n := ⟨_, rfl⟩
  have HN := Aside0.mk hn
  rw [hn] at x3 hkl
  obtain ⟨nh, hnh⟩ : ∃ nh : Nat, f.handlers.length = nh := ⟨_, rfl⟩
  have HNH := Aside0.mk hnh
  rw [hnh] at x4 hhl
  clear hn hnh
  obtain ⟨R, hR⟩ : ∃ R : Nat, f.regs = R := ⟨f.regs.toNat, by omega⟩
  obtain ⟨pm, hpme⟩ : ∃ pm : Nat, f.params = pm := ⟨f.params.toNat, by omega⟩
  have HRE := Aside0.mk hR; have HPM := Aside0.mk hpme
  have hR40 : R ≤ 40 := by omega
  have hpR : pm ≤ R := by omega
  rw [hpme] at x0; rw [hR] at x1
  clear hR hpme
  have M0 := Aside0.mk ((Mem.start w).allocAt rfl #[.slice (some fa) x.funcs.length c0, .slice A1 x.consts.length c1] 37)
  have p0 := pw_cell_below M0.out.below x0; have p1 := pw_cell_below M0.out.below x1; have p2 := pw_cell_below M0.out.below x2; have p3 := pw_cell_below M0.out.below x3; have p4 := pw_cell_below M0.out.below x4
  have z0 := M0.out.box (.head _)
  clear x0 x1 x2 x3 x4
  have M1 := Aside0.mk (M0.out.allocAt (g := w.heap.size + 1) (by simp) #[.int .i64 (pm : Int), .int .i64 (R : Int), .slice A2 f.caps.length c2, .slice A3 n c3, .slice A4 nh c4] 73)
  have hwq : (World.alloc (World.alloc w (.cells #[.slice (some fa) x.funcs.length c0, .slice A1 x.consts.length c1] 37)) (.cells #[.int .i64 (pm : Int), .int .i64 (R : Int), .slice A2 f.caps.length c2, .slice A3 n c3, .slice A4 nh c4] 73)).heap.size = w.heap.size + 2 := by simp
  go_enter Try.func66, Try.ntmps66
  go_upto_region 2 with fail
  clear z0 p0 p1 p2 p3 p4 M0
  generalize World.alloc (World.alloc w (.cells #[.slice (some fa) x.funcs.length c0, .slice A1 x.consts.length c1] 37)) (.cells #[.int .i64 (pm : Int), .int .i64 (R : Int), .slice A2 f.caps.length c2, .slice A3 n c3, .slice A4 nh c4] 73) = wq at M1 hwq ⊢
  have HWQ := Aside0.mk hwq; clear hwq
  go_cut [6] (fun u wx => ∃ (g : Nat) (vl vr : Value) (W3 : World), u = .pointer (some ⟨g, 0, none⟩) ∧ Aside0 (W3 = wx) ∧ Aside0 (Run 89 #[vl, vr, .slice none 0 0, .bool false] 0 g (w.heap.size + 2) w W3 (blank f) vl vr (.slice none 0 0)) ∧ Aside0 ((w.heap.size + 2) ≤ g) ∧ Aside0 (W3.heap[w.heap.size]? = some (.cells #[.slice (some fa) x.funcs.length c0, .slice A1 x.consts.length c1] 37 (0, 0))) ∧ Aside0 (W3.heap[w.heap.size + 1]? = some (.cells #[.int .i64 (pm : Int), .int .i64 (R : Int), .slice A2 f.caps.length c2, .slice A3 n c3, .slice A4 nh c4] 73 (0, 0))))
  case first =>
    refine sz 11 (fun W => W.cell? ⟨w.heap.size + 1, 3, none⟩ = some (.slice A3 n c3) ∧ W.cell? ⟨w.heap.size + 1, 3, none⟩ = some (.slice A3 n c3)) [] statesS.tab2 statesS.bits2 ⟨(M1.out.drew.box (.head _) 3).trans rfl, (M1.out.drew.box (.head _) 3).trans rfl⟩ (fun HT_ HW_ hHeld => ?_)
    have MD := Aside0.mk M1.out.drew; have HSZD := Aside0.mk (show (w.heap.size + 2) ≤ wq.heap.size from Nat.le_of_eq HWQ.out.symm)
    refine pz 0 20 ?_; refine pz 4 24 ?_; refine tz 1 21 ?_; refine pz 2 22 ?_; refine tz 5 25 ?_; refine pz 6 26 ?_
    refine twz 3 7 (some 23) (some 27) (fun K hK => ?_) (fun K hK => ?_)
    · skip
      refine Kd.R_make_step kStateI (w0 := _) _ 31 (by rfl) (N := 23) rfl 48 (.tmp 22) (.tmp 22) rfl (n : Int) (by rfl) (by rfl) Try.underlying48 (.agg #[.int .i64 0, .slice none 0 0]) 32 (by kernel_rfl) rfl (by decide) (by omega) zState (ok := fun _ => True) (okp := fun _ => True) (kStateI_mkM _ _ _ zState (Kd.R_nil _ _ _ _ _)) (fun _ hk => hk) trivial (by omega) (by omega) (Below.refl _ _) (Nat.le_refl _) ?_
      intro vL m0 ho hb hg_ hnew_; clear hg_ hnew_
      rw [Int.toNat_natCast] at ho
      obtain ⟨AL, yL, hv⟩ := Kd.R_slice ho; rw [List.length_replicate] at hv; subst hv
      have HL := Aside0.mk (Kd.R_lower ho (show (w.heap.size + 2) ≤ _ from HSZD.out))
      have MM0 := Aside0.mk (MD.out.step hb); have HSZ0 := Aside0.mk (Nat.le_trans HSZD.out hb.size)
      clear ho hb
      refine hK.out _ _ ⟨(MM0.out.box (.head _) 3).trans rfl, (MM0.out.box (.head _) 3).trans rfl⟩ (fun hHeld => ?_); clear hK K; refine kz (some 23) ?_
      refine ez 7 (some 27) (fun K hK => ?_)
      refine Kd.R_make_step Kd.bool (w0 := m0) _ 4 (by rfl) (N := 27) rfl 49 (.tmp 26) (.tmp 26) rfl (n : Int) (by rfl) (by rfl) Try.underlying49 (.bool false) 1 (by kernel_rfl) rfl (by decide) (by omega) false (ok := fun _ => True) (okp := fun _ => True) rfl (fun _ hk => hk) trivial (by omega) (by omega) (Below.refl _ _) (Nat.le_refl _) ?_
      intro vB m1 ho hb hg_ hnew_; clear hg_ hnew_
      rw [Int.toNat_natCast] at ho
      obtain ⟨AB, yB, hv⟩ := Kd.R_slice ho; rw [List.length_replicate] at hv; subst hv
      have HB := Aside0.mk (Kd.R_lower ho (show (w.heap.size + 2) ≤ _ from HSZ0.out))
      have MM1 := Aside0.mk (MM0.out.step hb); have HSZ1 := Aside0.mk (Nat.le_trans HSZ0.out hb.size)
      have HL := Aside0.mk (Kd.R_below HL.out hb)
      clear ho hb
      refine hK.out _ _ ⟨(MM1.out.box (.head _) 3).trans rfl, (MM1.out.box (.head _) 3).trans rfl⟩ (fun hHeld => ?_); clear hK K; refine kz (some 27) ?_
      refine pz 8 28 ?_
      refine ez 9 (some 29) (fun K hK => ?_)
      refine box_step ?hg (N := 29) ?hd (cs := #[(.slice AL n yL), (.slice AB n yB), .slice none 0 0, .bool false]) (t := 89) ?hr ?_; (case hd => rfl); (case hg => rfl); (case hr => first | (go_simp; done) | (go_simp; rfl))
      intro g hg m9 hbx hbb
      have M9 := Aside0.mk (MM1.out.step hbb)
      have HSG := Aside0.mk (show (w.heap.size + 2) ≤ g by rw [hg]; exact HSZ1.out)
      have RL := Kd.R_below (Kd.R_bound HL.out) hbb; have RB := Kd.R_below (Kd.R_bound HB.out) hbb
      have RR := Aside0.mk (show Run 89 #[(.slice AL n yL), (.slice AB n yB), .slice none 0 0, .bool false] 0 g (w.heap.size + 2) w m9 (blank f) (.slice AL n yL) (.slice AB n yB) (.slice none 0 0) from ⟨M9.out.below, by omega, by have := HSG.out; omega, hbx, Kd.R_mono (show kStateI.R _ m9 _ _ (.slice AL n yL) (blank f).list by unfold blank; rw [HN.out]; exact RL) (fun k hk => ⟨by have := hk.2.2.1; omega, by simp [Value.ownBlock]⟩), Kd.R_mono (show Kd.bool.R _ m9 _ _ (.slice AB n yB) (blank f).reached by unfold blank; rw [HN.out]; exact RB) (fun k hk => by have := hk.2.2.1; omega), Kd.Q_nil _ _ _ _ _⟩)
      clear hg hbx hbb RL RB
      refine hK.out _ _ ⟨(M9.out.box (.head _) 3).trans rfl, (M9.out.box (.head _) 3).trans rfl⟩ (fun hHeld => ?_); clear hK K; refine kz (some 29) ?_
      refine pz 10 6 ?_
      refine dz ?_
      try go_wp2_with fail
      go_meet
      exact ⟨_, _, _, _, rfl, ⟨rfl⟩, RR, HSG, ⟨M9.out.blk (.tail _ (.head _))⟩, ⟨M9.out.blk (.head _)⟩⟩
    · skip
      refine Kd.R_make_step Kd.bool (w0 := _) _ 4 (by rfl) (N := 27) rfl 49 (.tmp 26) (.tmp 26) rfl (n : Int) (by rfl) (by rfl) Try.underlying49 (.bool false) 1 (by kernel_rfl) rfl (by decide) (by omega) false (ok := fun _ => True) (okp := fun _ => True) rfl (fun _ hk => hk) trivial (by omega) (by omega) (Below.refl _ _) (Nat.le_refl _) ?_
      intro vB m0 ho hb hg_ hnew_; clear hg_ hnew_
      rw [Int.toNat_natCast] at ho
      obtain ⟨AB, yB, hv⟩ := Kd.R_slice ho; rw [List.length_replicate] at hv; subst hv
      have HB := Aside0.mk (Kd.R_lower ho (show (w.heap.size + 2) ≤ _ from HSZD.out))
      have MM0 := Aside0.mk (MD.out.step hb); have HSZ0 := Aside0.mk (Nat.le_trans HSZD.out hb.size)
      clear ho hb
      refine hK.out _ _ ⟨(MM0.out.box (.head _) 3).trans rfl, (MM0.out.box (.head _) 3).trans rfl⟩ (fun hHeld => ?_); clear hK K; refine kz (some 27) ?_
      refine ez 3 (some 23) (fun K hK => ?_)
      refine Kd.R_make_step kStateI (w0 := m0) _ 31 (by rfl) (N := 23) rfl 48 (.tmp 22) (.tmp 22) rfl (n : Int) (by rfl) (by rfl) Try.underlying48 (.agg #[.int .i64 0, .slice none 0 0]) 32 (by kernel_rfl) rfl (by decide) (by omega) zState (ok := fun _ => True) (okp := fun _ => True) (kStateI_mkM _ _ _ zState (Kd.R_nil _ _ _ _ _)) (fun _ hk => hk) trivial (by omega) (by omega) (Below.refl _ _) (Nat.le_refl _) ?_
      intro vL m1 ho hb hg_ hnew_; clear hg_ hnew_
      rw [Int.toNat_natCast] at ho
      obtain ⟨AL, yL, hv⟩ := Kd.R_slice ho; rw [List.length_replicate] at hv; subst hv
      have HL := Aside0.mk (Kd.R_lower ho (show (w.heap.size + 2) ≤ _ from HSZ0.out))
      have MM1 := Aside0.mk (MM0.out.step hb); have HSZ1 := Aside0.mk (Nat.le_trans HSZ0.out hb.size)
      have HB := Aside0.mk (Kd.R_below HB.out hb)
      clear ho hb
      refine hK.out _ _ ⟨(MM1.out.box (.head _) 3).trans rfl, (MM1.out.box (.head _) 3).trans rfl⟩ (fun hHeld => ?_); clear hK K; refine kz (some 23) ?_
      refine pz 8 28 ?_
      refine ez 9 (some 29) (fun K hK => ?_)
      refine box_step ?hg (N := 29) ?hd (cs := #[(.slice AL n yL), (.slice AB n yB), .slice none 0 0, .bool false]) (t := 89) ?hr ?_; (case hd => rfl); (case hg => rfl); (case hr => first | (go_simp; done) | (go_simp; rfl))
      intro g hg m9 hbx hbb
      have M9 := Aside0.mk (MM1.out.step hbb)
      have HSG := Aside0.mk (show (w.heap.size + 2) ≤ g by rw [hg]; exact HSZ1.out)
      have RL := Kd.R_below (Kd.R_bound HL.out) hbb; have RB := Kd.R_below (Kd.R_bound HB.out) hbb
      have RR := Aside0.mk (show Run 89 #[(.slice AL n yL), (.slice AB n yB), .slice none 0 0, .bool false] 0 g (w.heap.size + 2) w m9 (blank f) (.slice AL n yL) (.slice AB n yB) (.slice none 0 0) from ⟨M9.out.below, by omega, by have := HSG.out; omega, hbx, Kd.R_mono (show kStateI.R _ m9 _ _ (.slice AL n yL) (blank f).list by unfold blank; rw [HN.out]; exact RL) (fun k hk => ⟨by have := hk.2.2.1; omega, by simp [Value.ownBlock]⟩), Kd.R_mono (show Kd.bool.R _ m9 _ _ (.slice AB n yB) (blank f).reached by unfold blank; rw [HN.out]; exact RB) (fun k hk => by have := hk.2.2.1; omega), Kd.Q_nil _ _ _ _ _⟩)
      clear hg hbx hbb RL RB
      refine hK.out _ _ ⟨(M9.out.box (.head _) 3).trans rfl, (M9.out.box (.head _) 3).trans rfl⟩ (fun hHeld => ?_); clear hK K; refine kz (some 29) ?_
      refine pz 10 6 ?_
      refine dz ?_
      try go_wp2_with fail
      go_meet
      exact ⟨_, _, _, _, rfl, ⟨rfl⟩, RR, HSG, ⟨M9.out.blk (.tail _ (.head _))⟩, ⟨M9.out.blk (.head _)⟩⟩
  case rest =>
  clear M1
  obtain ⟨g, vl, vr, W3, rfl, HW3, R3, HSG, K0, K1⟩ := hcut
  have hw3 := HW3.out; subst hw3; clear HW3
  have M3 := Aside0.mk (Mem.start W3)
  have z1 := fun o => blk_cell K1.out o
  go_wp2_with (refine Kd.R_make (Kd.int .i64) _ 3 rfl (N := _) rfl _ _ _ rfl (R : Int) rfl rfl Try.underlying26 (.int .i64 0) 8 (by kernel_rfl) rfl (by decide) (by omega) (0 : Int) (ok := fun _ => True) (okp := fun _ => True) rfl (fun _ hk => hk) trivial (by omega) (by omega) (Below.refl _ _) (Nat.le_refl _) ?_; intro v4 w4 ho hb hg_ hnew_; clear hg_ hnew_; have HO4 := Aside0.mk ho; have HB4 := Aside0.mk hb; clear ho hb; refine Aside0.out ?_)
  refine ⟨?_⟩
  have ho4 := HO4.out
  rw [Int.toNat_natCast] at ho4
  obtain ⟨A4b, y4, hv4⟩ := Kd.R_slice ho4
  rw [List.length_replicate] at hv4; subst hv4
  have M4 := Aside0.mk (M3.out.pushR HB4.out ho4); clear M3 ho4 z1
  obtain ⟨g10, hg10⟩ : ∃ g10 : Nat, g10 = w4.heap.size := ⟨_, rfl⟩
  have M5 := Aside0.mk (M4.out.allocAt hg10 #[.int .i64 0, .slice A4b R y4] 31); clear M4
  go_upto_region 5 with fail
  rw [← hg10]
  have HG10 := Aside0.mk hg10; clear hg10
  generalize w4.alloc (.cells #[.int .i64 0, .slice A4b R y4] 31) = w5 at M5 ⊢
  have HE0 := Aside0.mk (show List.replicate R (0 : Int) = filled R 0 from by unfold filled; simp)
  rw [HE0.out] at M5
  clear HO4 HB4
  generalize hlo4 : W3.heap.size = lo4 at M5
  generalize w4.heap.size = hi4 at M5
  go_loopw [8] (fun v wx => ∃ q : Nat, v = .int .i64 q ∧ q ≤ pm ∧ Aside0 (Mem W3 wx [Hold.box g10 #[.int .i64 0, .slice A4b R y4] 31, Hold.val (Kd.slice 3 (Kd.int .i64)) lo4 hi4 (filled R q) [.slice A4b R y4]])) (fun v _ => pm - (intOf v).toNat)
  case atStart => exact ⟨0, rfl, by omega, M5⟩
  case round =>
  clear M5
  obtain ⟨q, rfl, hq, M6⟩ := hrel
  have K1r := Aside0.mk (blk_below K1.out M6.out.below); have K0r := Aside0.mk (blk_below K0.out M6.out.below)
  have z1 := fun o => blk_cell K1r.out o
  have z0 := M6.out.box (.head _)
  by_cases hlt : q < pm
  · have hle : (q : Int) < (pm : Int) := by omega
    have hr6 := M6.out.row (.tail _ (.head _))
    have hfl := filled_len (R := R) (q := q) (by omega)
    obtain ⟨gq, cq, hgq, hgb, hgl, _⟩ := Kd.R_form hr6 (by omega)
    rw [hfl] at hgq
    injection hgq with e1 e2 e3; subst e1; subst e3; clear e2
    obtain ⟨k0, k1⟩ := Kd.R_celln 0 hr6 (q : Int) (by omega) (by omega)
    rw [Int.toNat_natCast] at k0 k1
    obtain ⟨hp1, hp2⟩ := Kd.R_putg hr6 (q : Int) 1
    rw [Int.toNat_natCast, filled_set (by omega : q < R)] at hp1
    have hok := hr6.1 gq (by simp [Value.ownBlock])
    have hlow : W3.heap.size ≤ gq := by rw [hlo4]; exact hok.1
    have M7 := Aside0.mk (Mem.mark (A := [_]) (y := filled R (q + 1)) M6.out (below_set M6.out.below hlow) (Kept.setCell (Kept.refl _ _) (p := ⟨gq, q, none⟩) (.inl hok) (.int .i64 1)) ⟨_, rfl, hp1⟩)
    have hq0 : (0 : Int) ≤ (q : Int) := by omega
    have hq1 : (q : Int) < (R : Int) := by omega
    clear hr6 hp1 hp2 hok hlow hgb hgl
    clear M6
    go_wp2
    go_roundw
    case measure => simp [intOf]; omega
    case rel => exact ⟨q + 1, by go_num, by omega, M7⟩
  have hle : ¬ (q : Int) < (pm : Int) := by omega
  obtain rfl : pm = q := by omega
  go_wp2_with fail
  clear z0 z1
  have hbg : begin f = ⟨0, filled R pm⟩ := by rw [begin_filled, HRE.out, HPM.out]; rfl
  have HBG := Aside0.mk hbg; clear hbg
  have HIB := Aside0.mk (blank_inv f)
  have R6 := Aside0.mk (R3.out.step M6.out.below)
  have HLW := Aside0.mk (show (w.heap.size + 2) ≤ wr.heap.size from Nat.le_trans (Nat.le_trans HSG.out (Nat.le_of_lt R3.out.lt.1)) M6.out.below.size)
  have S6 := Aside0.mk (show SOk g (w.heap.size + 2) wr (.slice none 0 0) (begin f) [.int .i64 0, .slice A4b R y4] from by
    rw [HBG.out]
    refine kStateI_mkM _ _ _ ⟨0, filled R pm⟩ (Kd.R_lower (Kd.R_mono (M6.out.row (.tail _ (.head _))) (fun k hk => ⟨fun e => ?_, by simp [Value.ownBlock]⟩)) (by rw [← hlo4]; exact Nat.le_trans HSG.out (Nat.le_of_lt R3.out.lt.1)))
    have h1 := R3.out.lt.1
    have h2 := hk.1
    omega)
  have BK0 := Aside0.mk (R6.out.old K0r.out (by omega) (by have := HSG.out; omega)); have BK1 := Aside0.mk (R6.out.old K1r.out (by omega) (by have := HSG.out; omega))
  refine (cFlow 0 g (w.heap.size + 2) w _ (blank f) vl vr (.slice none 0 0) 0 (begin f) [.int .i64 0, .slice A4b R y4] R6.out S6.out (Nat.zero_le _) (by unfold blank; simp) (by rw [HIB.out.lr, HIB.out.ll]) (by rw [HIB.out.ll, HN.out]; omega) (by rw [HBG.out, filled_len hpR]; omega) (fun z hz hzr => by rw [HIB.out.rs z (by rw [HIB.out.ll] at hz; exact hz) hzr]; have := HRE.out; omega) (by omega) HLW.out).mono ?_
  rintro e w7 ⟨vt7, rfl, hR7, _, hB7⟩
  have R7 := Aside0.mk (show Run 89 #[vl, vr, vt7, .bool (start f).bad] 0 g (w.heap.size + 2) w w7 (start f) vl vr vt7 from hR7)
  have D0 := Aside0.mk (hB7 _ _ BK0.out); have D1 := Aside0.mk (hB7 _ _ BK1.out)
  clear hR7 hB7 M6 R6 S6 HLW R3 BK0 BK1 K0 K1 K0r K1r
  have HI0 := Aside0.mk (start_inv (f := f) (by have := HRE.out; have := HPM.out; omega) (by have := HPM.out; omega))
  have HFIN := Aside0.mk (fun (j : Nat) (hd : done (it x f (start f) j)) => final_of (x := x) (f := f) (by have := HRE.out; have := HPM.out; omega) (by have := HPM.out; omega) hd)
  have HFBD := Aside0.mk (fun (j : Nat) (hd : (it x f (start f) j).bad = true) => final_bad (x := x) (f := f) (by have := HRE.out; have := HPM.out; omega) (by have := HPM.out; omega) hd)
  have HK0 := Aside0.mk (show (start f).k = 0 from (come_inv (p := 0) (blank_inv f) (begin_len (f := f) (by have := HRE.out; have := HPM.out; omega) (by have := HPM.out; omega))).2.kk)
  go_upto_region 9 with fail
  go_loopg [9] (meas f.regs.toNat (start f)) (fun kq v wx => ∃ (m : Nat) (vt' : Value), kq = meas f.regs.toNat (it x f (start f) m) ∧ Aside0 (Run 89 #[vl, vr, vt', .bool (it x f (start f) m).bad] (it x f (start f) m).k g (w.heap.size + 2) w wx (it x f (start f) m) vl vr vt') ∧ Aside0 (BOk g vl vr vt' wx w.heap.size (.cells #[.slice (some fa) x.funcs.length c0, .slice A1 x.consts.length c1] 37 (0, 0))) ∧ Aside0 (BOk g vl vr vt' wx (w.heap.size + 1) (.cells #[.int .i64 (pm : Int), .int .i64 (R : Int), .slice A2 f.caps.length c2, .slice A3 n c3, .slice A4 nh c4] 73 (0, 0))))
  case atStart => exact ⟨0, vt7, rfl, ⟨by show Run _ _ (start f).k _ _ _ _ (start f) _ _ _; rw [HK0.out]; exact R7.out⟩, D0, D1⟩
  case round =>
  clear R7 D0 D1
  obtain ⟨m, vt2, hgk, R8, D0, D1⟩ := hrel
  have HI8 := Aside0.mk (it_inv (x := x) (f := f) HI0.out m)
  have HSS := Aside0.mk (fun (h : ¬ done (it x f (start f) m)) => it_succ (x := x) (f := f) (r := start f) (n := m) h)
  have HFM := Aside0.mk (HFIN.out m)
  have HFB := Aside0.mk (HFBD.out (m + 1))
  obtain ⟨rr, hrr⟩ : ∃ rr, rr = it x f (start f) m := ⟨_, rfl⟩
  rw [← hrr] at R8 HI8 HSS HFM hgk
  have HGK := Aside0.mk hgk; have HRR := Aside0.mk hrr; clear hgk hrr
  obtain ⟨AT, yT, hvt, hyT⟩ := Kd.Q_slice R8.out.Q
  rw [List.length_drop] at hvt hyT
  obtain ⟨nq, hnq⟩ : ∃ nq : Nat, rr.queue.length - rr.k = nq := ⟨_, rfl⟩
  rw [hnq] at hvt hyT; subst hvt
  have HNQ := Aside0.mk hnq; clear hnq
  have q2 := (blk_cell R8.out.box 2).trans rfl
  have q3 := (blk_cell R8.out.box 3).trans rfl
  have hql := inv_q HI8.out (by have := HN.out; omega) (by have := HRE.out; omega)
  have FIN := Aside0.mk (show ∀ (hd : done rr), final x f = rr from fun hd => (HFM.out hd).symm)
  have z1 := fun o => blk_cell D1.out.1 o
  by_cases hk : 0 < nq
  rotate_left
  · have hk2 : ¬ (0 : Int) < (nq : Int) := by omega
    have HF := Aside0.mk (FIN.out (.inr (by have := HNQ.out; omega)))
    go_wp2
    go_ret
    first | exact ⟨g, w.heap.size + 2, vl, vr, .slice AT nq yT, rr, rfl, R8.out, congrArg Fl.bad HF.out.symm, fun _ => HF.out.symm⟩ | exact ⟨g, rfl, w.heap.size + 2, vl, vr, .slice AT nq yT, rr, R8.out, congrArg Fl.bad HF.out.symm, fun _ => HF.out.symm⟩
  have hk2 : (0 : Int) < (nq : Int) := by omega
  rcases Bool.eq_false_or_eq_true rr.bad with hbd | hbd
  · have HF := Aside0.mk (FIN.out (.inl hbd))
    have HBD := Aside0.mk hbd
    rw [hbd] at q3
    clear hbd
    go_wp2
    go_ret
    first | exact ⟨g, w.heap.size + 2, vl, vr, .slice AT nq yT, rr, rfl, R8.out, congrArg Fl.bad HF.out.symm, fun _ => HF.out.symm⟩ | exact ⟨g, rfl, w.heap.size + 2, vl, vr, .slice AT nq yT, rr, R8.out, congrArg Fl.bad HF.out.symm, fun _ => HF.out.symm⟩
  have HBD := Aside0.mk hbd
  rw [hbd] at q3
  clear hbd
  have hkl2 : rr.k < rr.queue.length := by have := HNQ.out; omega
  obtain ⟨gt, ot, cq, hqf, _, _, _⟩ := Kd.Q_form R8.out.Q (by rw [List.length_drop]; have := HNQ.out; omega)
  injection hqf with e1 e2 e3; subst e1; subst e3; clear e2
  obtain ⟨h1, h2, h3⟩ := HI8.out.qs _ (el_mem 0 hkl2)
  obtain ⟨pp, hpp⟩ : ∃ pp : Nat, el 0 rr.queue rr.k = pp := ⟨(el 0 rr.queue rr.k).toNat, by omega⟩
  rw [hpp] at h2 h3
  rw [Int.toNat_natCast] at h2 h3
  have hq0 := (Kd.Q_cell 0 R8.out.Q 0 (by omega) (by omega)).1
  have hqv : rdOf (0 : Int) (rr.queue.drop rr.k) 0 = pp := by
    rw [← hpp]
    unfold rdOf el
    rw [List.getD_eq_getElem?_getD, List.getD_eq_getElem?_getD, List.getElem?_drop]
    rfl
  rw [hqv] at hq0
  have hqc : wr.cell? ⟨gt, ot, none⟩ = some (.int .i64 (pp : Int)) := hq0
  clear hq0 hqv
  have H2 := Aside0.mk h2; have H3 := Aside0.mk h3; have HPP := Aside0.mk hpp
  clear h1 h3 hpp
  have hn1 : (1 : Int) ≤ (nq : Int) := by omega
  have hn2 : (nq : Int) ≤ (yT : Int) := by omega
  go_upto_region 11 with fail
  have f2 := blk_frozen R8.out.box 2
  go_cut [9] (fun v wx => ∃ (vt3 : Value) (W9 : World), v = .int .i64 pp ∧ Aside0 (W9 = wx) ∧ Aside0 (Run 89 #[vl, vr, vt3, .bool false] (rr.k + 1) g (w.heap.size + 2) w wx rr vl vr vt3) ∧ Aside0 (BOk g vl vr vt3 wx w.heap.size (.cells #[.slice (some fa) x.funcs.length c0, .slice A1 x.consts.length c1] 37 (0, 0))) ∧ Aside0 (BOk g vl vr vt3 wx (w.heap.size + 1) (.cells #[.int .i64 (pm : Int), .int .i64 (R : Int), .slice A2 f.caps.length c2, .slice A3 n c3, .slice A4 nh c4] 73 (0, 0))))
  case first =>
    by_cases hy1 : yT = 1
    · subst hy1
      obtain rfl : nq = 1 := by omega
      go_wp2
      go_meet
      exact ⟨.slice (some ⟨gt, ot, none⟩) 0 0, _, rfl, ⟨rfl⟩, ⟨R8.out.pop (cs' := #[vl, vr, .slice (some ⟨gt, ot, none⟩) 0 0, .bool false]) hkl2 (by have := HNQ.out; omega) (ot2 := ot) rfl 2 (by first | (rw [HBD.out]; done) | (rw [HBD.out]; rfl))⟩, ⟨D0.out.pop 2⟩, ⟨D1.out.pop 2⟩⟩
    · have hy2 : ¬ ((yT : Int) = 1) := by omega
      go_wp2
      go_meet
      exact ⟨_, _, rfl, ⟨rfl⟩, ⟨R8.out.pop hkl2 (by have := HNQ.out; omega) (ot2 := ot + 1) (if_neg hy1).symm 2 (by rw [HBD.out]; rfl)⟩, ⟨D0.out.pop 2⟩, ⟨D1.out.pop 2⟩⟩
  case rest =>
  clear q2 q3 f2 z1 hqc R8 D0 D1
  obtain ⟨vt3, W9, rfl, HW9, R9, D0, D1⟩ := hcut
  have hw9 := HW9.out; subst hw9; clear HW9
  have HP0 := Aside0.mk (HI8.out.pop hkl2)
  obtain ⟨r0, hr0⟩ : ∃ r0 : Fl, r0 = { rr with k := rr.k + 1 } := ⟨_, rfl⟩
  rw [← hr0] at HP0
  obtain ⟨s, hse⟩ : ∃ s, s = el zState rr.list pp := ⟨_, rfl⟩
  obtain ⟨i, hie⟩ : ∃ i, i = el zIns f.code pp := ⟨_, rfl⟩
  have HIM := Aside0.mk (show i ∈ f.code by rw [hie]; exact el_mem zIns H2.out)
  have HIB := Aside0.mk (show (1 ≤ i.op ∧ i.op ≤ 19) ∧ (0 ≤ i.a ∧ i.a ≤ 300) ∧ (0 ≤ i.b ∧ i.b ≤ 300) from OK.out.code i HIM.out)
  have HLS := Aside0.mk (show s.regs.length = f.regs.toNat by rw [hse]; exact HI8.out.rs pp H2.out H3.out)
  have hls : s.regs.length ≤ 1048576 := by have := HLS.out; have := HRE.out; omega
  have HST := Aside0.mk (show it x f (start f) (m + 1) = stepP x f r0 pp from by
    rw [HSS.out (fun hd => by rcases hd with hd | hd; (rw [HBD.out] at hd; cases hd); omega), step_eq, HPP.out, Int.toNat_natCast, hr0])
  have HSK := Aside0.mk (show (stepP x f r0 pp).k = rr.k + 1 from by
    have h := (step_inv (x := x) (f := f) HI8.out hkl2).2.kk
    rw [step_eq, HPP.out, Int.toNat_natCast, ← hr0] at h
    rw [h, hr0])
  have HSM := Aside0.mk (show meas f.regs.toNat (stepP x f r0 pp) < meas f.regs.toNat rr from by
    have h := step_meas (x := x) (f := f) HI8.out hkl2
    rw [step_eq, HPP.out, Int.toNat_natCast, ← hr0] at h
    exact h)
  have R10 := Aside0.mk (show Run 89 #[vl, vr, vt3, .bool false] (rr.k + 1) g (w.heap.size + 2) w W9 r0 vl vr vt3 from R9.out.as (by rw [hr0]) (by rw [hr0]) (by rw [hr0]))
  have HLL := Aside0.mk (show rr.list.length = n by rw [HI8.out.ll, HN.out])
  obtain ⟨gl, cl, hgl, hglo, hgll, _⟩ := Kd.R_form R9.out.L (by rw [HLL.out]; omega)
  have hppn : pp < n := by have := H2.out; have := HN.out; omega
  obtain ⟨c, hcl, hcM, hcc, hcf⟩ := Kd.R_elem (by have h := R9.out.L; rw [hgl] at h; exact h) zState (pp : Int) (by omega) (by rw [HLL.out]; omega)
  rw [Int.toNat_natCast, show rr.list.getD pp zState = s from hse.symm] at hcM
  obtain ⟨va, rfl, hra⟩ := kStateI_openM hcM
  obtain ⟨AS, yS, rfl⟩ := Kd.R_slice hra
  have S9 := Aside0.mk (show SOk g (w.heap.size + 2) W9 vt3 s [.int .i64 s.acc, .slice AS s.regs.length yS] from kStateI.M_mono (fun k hk => hk.1) hcM)
  have e0 : W9.cell? ⟨gl, pp * 2, none⟩ = some (.int .i64 s.acc) := hcc 0 _ rfl
  have e1 : W9.cell? ⟨gl, pp * 2 + 1, none⟩ = some (.slice AS s.regs.length yS) := hcc 1 _ rfl
  have q0 := (blk_cell R9.out.box 0).trans rfl
  rw [hgl, HLL.out] at q0
  have HGL := Aside0.mk hgl
  have HS := Aside0.mk hse; have HI := Aside0.mk hie; have HR0 := Aside0.mk hr0
  have hb4 : ∀ (b : Nat) (v : Value), W9.heap.size ≤ b → (∀ k, v.ownBlock = some k → k < W9.heap.size) → some b ≠ v.ownBlock := fun b v hbb h e => by have := h _ e.symm; omega
  have HNEW := Aside0.mk (show ∀ (W : World) (b : Nat) (o : Obj), W.heap[b]? = some o → W9.heap.size ≤ b → BOk g vl vr vt3 W b o from fun W b o hx hle => ⟨hx, by have := R9.out.lt.1; omega, hb4 b vl hle (Kd.R_lt R9.out.L), hb4 b vr hle (Kd.R_lt R9.out.B), hb4 b vt3 hle (Kd.Q_lt R9.out.Q)⟩)
  clear hcl hcM hcc hcf hra hb4 hgll hgl hse hie hr0 hglo
  have hp0 : (0 : Int) ≤ (pp : Int) := by omega
  have hp1 : (pp : Int) < (n : Int) := by omega
  obtain ⟨b10, hb10⟩ : ∃ b : Nat, b = W9.heap.size := ⟨_, rfl⟩
  have M1 := Aside0.mk ((Mem.start W9).allocAt hb10 #[.int .i64 s.acc, .slice AS s.regs.length yS] 31)
  go_upto_region 13 with fail
  rw [← hb10]
  clear q0 e0 e1
  generalize hwa : W9.alloc (.cells #[.int .i64 s.acc, .slice AS s.regs.length yS] 31) = wa at M1 ⊢
  clear hwa
  have hfa : b10 + 1 ≤ wa.heap.size := (M1.out.fits _ (.head _)).2
  have z1 := fun o => blk_cell (D1.out.step M1.out.below).1 o
  obtain ⟨ka, hka, kK, k0, k1, k2⟩ := Ins_at (Kd.C_below HC.out.2 (R9.out.step M1.out.below).below) pp H2.out
  cases hka
  clear kK
  rw [← HI.out] at k0 k1 k2
  obtain ⟨b11, hb11⟩ : ∃ b : Nat, b = wa.heap.size := ⟨_, rfl⟩
  have M2 := Aside0.mk (M1.out.allocAt hb11 #[.int .i64 i.op, .int .i64 i.a, .int .i64 i.b] 76)
  go_upto_region 14 with fail
  rw [← hb11]
  clear z1 k0 k1 k2
  generalize hwb : wa.alloc (.cells #[.int .i64 i.op, .int .i64 i.a, .int .i64 i.b] 76) = wb at M2 ⊢
  clear hwb M1
  have HB11 := Aside0.mk (show b10 + 1 ≤ b11 ∧ b10 = W9.heap.size from ⟨by rw [hb11]; exact hfa, hb10⟩)
  clear hfa
  clear hb10 hb11
  have z0 := fun o => blk_cell (D0.out.step M2.out.below).1 o
  have z10 := M2.out.box (.tail _ (.head _)); have z11 := M2.out.box (.head _)
  go_wp2_with fail
  obtain ⟨cAS, cyS, ce, hcs1, hcs2⟩ := kStateI_open (S9.out.step M2.out.below).K
  injection ce with ce1 ce2; injection ce2 with ce3 _; injection ce3 with ce4 ce5 ce6; subst ce4; subst ce6; clear ce1 ce5
  refine (HMAY.out s i AS yS _ (R9.out.step M2.out.below).below hcs2 hcs1 hls HIM.out).mono ?_; rintro e w11 ⟨rfl, hb11⟩
  have M3 := Aside0.mk (M2.out.step hb11)
  have RM := Aside0.mk (R10.out.step M3.out.below); have SM := Aside0.mk (S9.out.step M3.out.below)
  have E0 := Aside0.mk (D0.out.step M3.out.below); have E1 := Aside0.mk (D1.out.step M3.out.below)
  have E10 := Aside0.mk (HNEW.out _ b10 _ (M3.out.blk (.tail _ (.head _))) (by have := HB11.out.2; omega)); have E11 := Aside0.mk (HNEW.out _ b11 _ (M3.out.blk (.head _)) (by have := HB11.out; omega))
  clear hb11 z0 z10 z11 hcs1 hcs2 M2 R10 D0 D1 S9 R9
  have HLOW := Aside0.mk (show (w.heap.size + 2) ≤ w11.heap.size from RM.out.low (by rw [HP0.out.ll]; omega))
  clear M3
  rcases Bool.eq_false_or_eq_true (mayB x f i s) with hmb | hmb
  rotate_left
  · rw [hmb]
    have HF := Aside0.mk (show (final x f).bad = true from HFB.out (by rw [HST.out]; unfold stepP; rw [show r0.list = rr.list by rw [HR0.out], ← HS.out, ← HI.out, if_neg (by rw [hmb]; decide)]))
    clear hmb
    have q3 := (blk_cell RM.out.box 3).trans rfl; have f3 := blk_frozen RM.out.box 3
    have RF := Aside0.mk ((RM.out.set 3 (.bool true) rfl).as (r2 := { r0 with bad := true }) rfl rfl rfl)
    have hk0 : r0.k = rr.k + 1 := by rw [HR0.out]
    have HK0 := Aside0.mk hk0; clear hk0
    have RG := Aside0.mk (show Run _ _ ({ r0 with bad := true } : Fl).k _ _ _ _ _ _ _ _ from HK0.out.symm ▸ RF.out)
    go_wp2
    go_ret
    first | exact ⟨g, (w.heap.size + 2), vl, vr, vt3, { r0 with bad := true }, rfl, RG.out, HF.out.symm, fun h => by cases h⟩ | exact ⟨g, rfl, (w.heap.size + 2), vl, vr, vt3, { r0 with bad := true }, RG.out, HF.out.symm, fun h => by cases h⟩
  rw [hmb]
  have HMB := Aside0.mk hmb; clear hmb
  have HSP := Aside0.mk (show stepP x f r0 pp = next (jump (handsTo f.handlers (pp : Int) s r0 nh) i (afterS i s)) i pp (afterS i s) from by
    unfold stepP
    rw [show r0.list = rr.list by rw [HR0.out], ← HS.out, ← HI.out, if_pos HMB.out, HNH.out])
  have hbr0 : r0.bad = false := by rw [HR0.out]; exact HBD.out
  have RM2 := Aside0.mk (show Run 89 #[vl, vr, vt3, .bool r0.bad] (rr.k + 1) g (w.heap.size + 2) w w11 r0 vl vr vt3 from by rw [hbr0]; exact RM.out)
  clear hbr0 RM
  go_upto_region 18 with fail
  go_loopw [12] (fun v wx => ∃ (q : Nat) (vt' : Value), v = .int .i64 q ∧ q ≤ nh ∧ Aside0 (Run 89 #[vl, vr, vt', .bool (handsTo f.handlers (pp : Int) s r0 q).bad] (rr.k + 1) g (w.heap.size + 2) w wx (handsTo f.handlers (pp : Int) s r0 q) vl vr vt') ∧ Aside0 (SOk g (w.heap.size + 2) wx vt' s [.int .i64 s.acc, .slice AS s.regs.length yS]) ∧ Aside0 (BOk g vl vr vt' wx w.heap.size (.cells #[.slice (some fa) x.funcs.length c0, .slice A1 x.consts.length c1] 37 (0, 0))) ∧ Aside0 (BOk g vl vr vt' wx (w.heap.size + 1) (.cells #[.int .i64 (pm : Int), .int .i64 (R : Int), .slice A2 f.caps.length c2, .slice (some ka) n c3, .slice A4 nh c4] 73 (0, 0))) ∧ Aside0 (BOk g vl vr vt' wx b10 (.cells #[.int .i64 s.acc, .slice AS s.regs.length yS] 31 (0, 0))) ∧ Aside0 (BOk g vl vr vt' wx b11 (.cells #[.int .i64 i.op, .int .i64 i.a, .int .i64 i.b] 76 (0, 0)))) (fun v _ => nh - (intOf v).toNat)
  case atStart => exact ⟨0, vt3, rfl, by omega, RM2, SM, E0, E1, E10, E11⟩
  case round =>
  clear RM2 SM E0 E1 E10 E11 HLOW
  obtain ⟨q, vt4, rfl, hq, R11, S11, E0, E1, E10, E11⟩ := hrel
  have HI1 := Aside0.mk (hands_inv (hs := f.handlers) (p := (pp : Int)) (s := s) HP0.out HLS.out q).1
  have HQL := Aside0.mk (show rr.k + 1 ≤ (handsTo f.handlers (pp : Int) s r0 q).queue.length from by
    have h1 := (hands_inv (hs := f.handlers) (p := (pp : Int)) (s := s) HP0.out HLS.out q).2.ql
    have h2 : r0.queue.length = rr.queue.length := by rw [HR0.out]
    omega)
  have HLOW := Aside0.mk (show (w.heap.size + 2) ≤ wr.heap.size from R11.out.low (by rw [HI1.out.ll, HN.out]; omega))
  have z1 := fun o => blk_cell E1.out.1 o
  by_cases hlt : q < nh
  · have hle : (q : Int) < (nh : Int) := by omega
    have hlth : q < f.handlers.length := by rw [HNH.out]; exact hlt
    obtain ⟨ha, hha, hK, y0, y1, y2⟩ := Handler_at (Kd.C_below HH.out.2 R11.out.below) q hlth
    cases hha
    clear hK
    obtain ⟨h, hhe⟩ : ∃ h, h = el zHandler f.handlers q := ⟨_, rfl⟩
    rw [← hhe] at y0 y1 y2
    have HHE := Aside0.mk hhe; clear hhe
    have HHB := Aside0.mk (show (0 ≤ h.from_ ∧ h.from_ ≤ 300) ∧ (0 ≤ h.to_ ∧ h.to_ ≤ 300) ∧ (0 ≤ h.target ∧ h.target ≤ 300) from OK.out.hand h (by rw [HHE.out]; exact el_mem zHandler hlth))
    obtain ⟨b13, hb13⟩ : ∃ b : Nat, b = wr.heap.size := ⟨_, rfl⟩
    have M2 := Aside0.mk ((Mem.start wr).allocAt hb13 #[.int .i64 h.from_, .int .i64 h.to_, .int .i64 h.target] 107)
    go_upto_region 21 with fail
    rw [← hb13]
    clear y0 y1 y2 z1
    generalize hwt : wr.alloc (.cells #[.int .i64 h.from_, .int .i64 h.to_, .int .i64 h.target] 107) = wt at M2 ⊢
    clear hwt
    have HB13 := Aside0.mk hb13; clear hb13
    have z13 := M2.out.box (.head _)
    have HNO := Aside0.mk (fun (hn : ¬ (h.from_ ≤ (pp : Int) ∧ (pp : Int) < h.to_)) => show handsTo f.handlers (pp : Int) s r0 (q + 1) = handsTo f.handlers (pp : Int) s r0 q from by
      show (if (el zHandler f.handlers q).from_ ≤ (pp : Int) ∧ (pp : Int) < (el zHandler f.handlers q).to_ then _ else _) = _
      rw [← HHE.out, if_neg hn])
    by_cases hf1 : h.from_ ≤ (pp : Int)
    rotate_left
    · have HN2 := Aside0.mk (HNO.out (fun hc => hf1 hc.1))
      go_wp2
      go_roundw
      case measure => simp [intOf]; omega
      case rel => exact ⟨q + 1, vt4, by go_num, by omega, ⟨by rw [HN2.out]; exact R11.out.step M2.out.below⟩, ⟨S11.out.step M2.out.below⟩, ⟨E0.out.step M2.out.below⟩, ⟨E1.out.step M2.out.below⟩, ⟨E10.out.step M2.out.below⟩, ⟨E11.out.step M2.out.below⟩⟩
    by_cases hf2 : (pp : Int) < h.to_
    rotate_left
    · have HN2 := Aside0.mk (HNO.out (fun hc => hf2 hc.2))
      go_wp2
      go_roundw
      case measure => simp [intOf]; omega
      case rel => exact ⟨q + 1, vt4, by go_num, by omega, ⟨by rw [HN2.out]; exact R11.out.step M2.out.below⟩, ⟨S11.out.step M2.out.below⟩, ⟨E0.out.step M2.out.below⟩, ⟨E1.out.step M2.out.below⟩, ⟨E10.out.step M2.out.below⟩, ⟨E11.out.step M2.out.below⟩⟩
    have HYE := Aside0.mk (show handsTo f.handlers (pp : Int) s r0 (q + 1) = come (handsTo f.handlers (pp : Int) s r0 q) h.target.toNat ⟨1, s.regs⟩ from by
      show (if (el zHandler f.handlers q).from_ ≤ (pp : Int) ∧ (pp : Int) < (el zHandler f.handlers q).to_ then _ else _) = _
      rw [← HHE.out, if_pos ⟨hf1, hf2⟩])
    obtain ⟨tg, htg⟩ : ∃ tg : Nat, h.target = tg := ⟨h.target.toNat, by have := HHB.out; omega⟩
    have htg3 : tg ≤ 300 := by have := HHB.out; omega
    rw [htg] at HYE M2 z13
    rw [Int.toNat_natCast] at HYE
    go_upto_region 22 with fail
    clear z13
    obtain ⟨L, HL, ML⟩ := Mem.hide M2
    have E13 := Aside0.mk (show Hold.box b13 #[.int .i64 h.from_, .int .i64 h.to_, .int .i64 (tg : Int)] 107 ∈ L from HL.out ▸ (.head _))
    clear M2
    refine sz 9 (fun W => W.cell? ⟨b13, 2, none⟩ = some (.int .i64 (tg : Int)) ∧ W.cell? ⟨b10, 1, none⟩ = some (.slice AS s.regs.length yS)) [8] statesS.tab22 statesS.bits22 ⟨(ML.out.drew.box E13.out 2).trans rfl, (blk_cell (E10.out.step ML.out.drew.below).1 1).trans rfl⟩ (fun HT_ HW_ hHeld => ?_)
    have MD := Aside0.mk ML.out.drew
    generalize wt.drew = wd at MD hHeld ⊢
    refine pz 0 118 ?_; refine pz 1 119 ?_; refine pz 4 122 ?_; refine tz 2 120 ?_; refine tz 5 123 ?_
    refine ez 3 (some 121) (fun K hK => ?_)
    refine Kd.R_lit_step (Kd.int .i64) _ 3 ?hg (N := 121) ?hd (xs := ([] : List Int)) (inner := []) (ok := fun _ => True) (okp := fun _ => True) ?hr ?hp (fun _ hk => hk) trivial (Below.refl _ _) (Nat.le_refl _) (by simp) ?_; (case hd => rfl); (case hg => rfl); (case hr => first | (go_simp; done) | (go_simp; rfl)); (case hp => exact (Reps.none _ _))
    intro v5 w5 ho5 hb5 hg_ hnew_; clear hg_ hnew_
    have HO5 := Aside0.mk ho5; have MA := Aside0.mk (MD.out.step hb5); have HB5 := Aside0.mk hb5; clear ho5 hb5
    refine hK.out _ _ ⟨(MA.out.box E13.out 2).trans rfl, (blk_cell (E10.out.step MA.out.below).1 1).trans rfl⟩ (fun hHeld => ?_); clear hK K; refine kz (some 121) ?_
    refine ez 6 (some 124) (fun K hK => ?_)
    refine Kd.R_append_rows_step (Kd.int .i64) (w0 := wd) wd.heap.size (by rfl) (.tmp 121) (.tmp 123) 26 3 (.int .i64 0) 8 rfl Try.underlying26 info3 rfl (by decide) (by omega) v5 [] s.regs _ _ _ (fun _ => True) (fun _ => False) rfl rfl ?aO ?aR (fun _ _ h => h) (fun _ h => h.elim) ?aF ?aB ?aS ?aL ?_
    (case aR => obtain ⟨_, _, ce, _, hc2⟩ := kStateI_open (S11.out.step MA.out.below).K; cases ce; exact hc2)
    (case aO => exact HO5.out)
    (case aF => exact fun _ _ => trivial)
    (case aB => exact HB5.out)
    (case aS => exact HB5.out.size)
    (case aL => simp; omega)
    intro v6 w6 ho6 hb6 hg6 hat6; clear hg6 hat6
    rw [List.nil_append] at ho6
    obtain ⟨A6, y6, rfl⟩ := Kd.R_slice ho6
    have HO6 := Aside0.mk ho6; have MB := Aside0.mk (MD.out.step hb6); clear ho6 hb6
    refine hK.out _ _ ⟨(MB.out.box E13.out 2).trans rfl, (blk_cell (E10.out.step MB.out.below).1 1).trans rfl⟩ (fun hHeld => ?_); clear hK K; refine kz (some 124) ?_
    refine pz 7 125 ?_
    refine lz 8 (some 126) (fun K hK => ?_)
    refine gz Try.func110 #[.pointer (some ⟨g, 0, none⟩), .int .i64 (tg : Int), .agg #[.int .i64 1, .slice A6 s.regs.length y6]] ?_
    have RL := R11.out.lt; have hwd := MD.out.below.size
    have S6 := Aside0.mk (show SOk g (w.heap.size + 2) w6 vt4 ⟨1, s.regs⟩ [.int .i64 1, .slice A6 s.regs.length y6] from kStateI_mkM _ _ _ ⟨1, s.regs⟩ (Kd.R_lower (Kd.R_mono (Kd.R_bound HO6.out) (fun k hk => ⟨fun e => by have := hk.2.1; omega, fun e => by have := RL.2 k e.symm; have := hk.2.1; omega⟩)) (Nat.le_trans HLOW.out hwd)))
    refine (cFlow (rr.k + 1) g (w.heap.size + 2) w w6 (handsTo f.handlers (pp : Int) s r0 q) vl vr vt4 tg ⟨1, s.regs⟩ [.int .i64 1, .slice A6 s.regs.length y6] (R11.out.step MB.out.below) S6.out HQL.out (by have := inv_q HI1.out (by rw [HN.out]; exact hkl.2) (by rw [HRE.out]; omega); omega) (by rw [HI1.out.lr, HI1.out.ll]) (by rw [HI1.out.ll, HN.out]; omega) hls (fun z hz hzr => by rw [HI1.out.rs z (by rw [HI1.out.ll] at hz; exact hz) hzr, HRE.out]; omega) (by omega) (Nat.le_trans HLOW.out MB.out.below.size)).mono ?_
    rintro e w8 ⟨vt8, rfl, hR8, hS8, hB8⟩
    have R12 := Aside0.mk hR8; have S12 := Aside0.mk (hS8 _ _ (S11.out.step MB.out.below)); have G0 := Aside0.mk (hB8 _ _ (E0.out.step MB.out.below)); have G1 := Aside0.mk (hB8 _ _ (E1.out.step MB.out.below)); have G10 := Aside0.mk (hB8 _ _ (E10.out.step MB.out.below)); have G11 := Aside0.mk (hB8 _ _ (E11.out.step MB.out.below)); clear hR8 hS8 hB8 RL hwd
    refine ⟨_, rfl, ?_⟩
    refine hK.out _ _ ?_; clear hK K
    refine dz ?_
    clear hHeld
    go_wp2
    go_roundw
    case measure => simp [intOf]; omega
    case rel => exact ⟨q + 1, vt8, by go_num, by omega, ⟨by rw [HYE.out]; exact R12.out⟩, S12, G0, G1, G10, G11⟩
  have hle : ¬ (q : Int) < (nh : Int) := by omega
  obtain rfl : nh = q := by omega
  obtain ⟨r1, hr1⟩ : ∃ r1, r1 = handsTo f.handlers (pp : Int) s r0 nh := ⟨_, rfl⟩
  rw [← hr1] at R11 HI1 HQL HSP
  clear hr1
  obtain ⟨nx, hnx⟩ : ∃ nx, nx = afterS i s := ⟨_, rfl⟩
  rw [← hnx] at HSP
  have HNX := Aside0.mk hnx
  have HLN := Aside0.mk (show nx.regs.length = f.regs.toNat by rw [hnx, after_len]; exact HLS.out)
  have hln : nx.regs.length ≤ 1048576 := by have := HLN.out; have := HRE.out; omega
  clear hnx
  have z10 := fun o => blk_cell E10.out.1 o; have z11 := fun o => blk_cell E11.out.1 o
  go_wp2_with fail
  refine (cAfter i s _ _ S11.out.K HIB.out.1 HIB.out.2.1.1 (fun ho => may_room HMB.out ho) hls).mono ?_; rintro e w12 ⟨ds, rfl, hm, hb12⟩; rw [← HNX.out] at hm; obtain ⟨v12, rfl, hr12⟩ := kStateI_openM hm; obtain ⟨X, Y, rfl⟩ := Kd.R_slice hr12
  have M5 := Aside0.mk ((Mem.start wr).push hb12 hm); clear hm hb12 hr12 z1 z10 z11
  obtain ⟨b14, hb14⟩ : ∃ b : Nat, b = w12.heap.size := ⟨_, rfl⟩
  have hfv : wr.heap.size ≤ w12.heap.size := M5.out.below.size
  have M6 := Aside0.mk (M5.out.allocAt hb14 #[.int .i64 nx.acc, .slice X nx.regs.length Y] 31); clear M5
  have hq14 : wr.heap.size ≤ b14 := by rw [hb14]; exact hfv
  go_upto_region 24 with fail
  rw [← hb14]
  generalize hwc : w12.alloc (.cells #[.int .i64 nx.acc, .slice X nx.regs.length Y] 31) = wc at M6 ⊢
  clear hwc hb14 hfv
  have hrt := R11.out.lt
  have hnb : ∀ v : Value, (∀ k, v.ownBlock = some k → k < wr.heap.size) → some b14 ≠ v.ownBlock := fun v h e => by have := h _ e.symm; omega
  have B14 := Aside0.mk (show BOk g vl vr vt4 wc b14 (.cells #[.int .i64 nx.acc, .slice X nx.regs.length Y] 31 (0, 0)) from ⟨M6.out.blk (.head _), by omega, hnb vl (Kd.R_lt R11.out.L), hnb vr (Kd.R_lt R11.out.B), hnb vt4 (Kd.Q_lt R11.out.Q)⟩)
  have hlw : (w.heap.size + 2) ≤ wr.heap.size := HLOW.out
  have SN := Aside0.mk (SOk.of_val (g := g) (lo := (w.heap.size + 2)) (vt := vt4) (a2 := nx.acc) (M6.out.val (.tail _ (.head _))) hlw hrt.1 hrt.2)
  have R13 := Aside0.mk (R11.out.step M6.out.below)
  have G0 := Aside0.mk (E0.out.step M6.out.below); have G1 := Aside0.mk (E1.out.step M6.out.below); have G11 := Aside0.mk (E11.out.step M6.out.below)
  have HLOWC := Aside0.mk (Nat.le_trans hlw M6.out.below.size)
  clear hrt hnb hlw hq14 R11 S11 E0 E1 E10 E11 M6
  obtain ⟨ia, hia⟩ : ∃ ia : Nat, i.a = ia := ⟨i.a.toNat, by have := HIB.out; omega⟩
  have hia3 : ia ≤ 300 := by have := HIB.out; omega
  rw [hia] at G11
  by_cases hop : i.op = 12
  · have hop2 := hop
    rw [hop] at G11
    have z11 := fun o => blk_cell G11.out.1 o; have z14 := fun o => blk_cell B14.out.1 o
    go_wp2_with fail
    refine (cFlow (rr.k + 1) g (w.heap.size + 2) w _ r1 vl vr _ ia nx [.int .i64 nx.acc, .slice X nx.regs.length Y] R13.out SN.out HQL.out (by have := inv_q HI1.out (by rw [HN.out]; exact hkl.2) (by rw [HRE.out]; omega); omega) (by rw [HI1.out.lr, HI1.out.ll]) (by rw [HI1.out.ll, HN.out]; omega) hln (fun z hz hzr => by rw [HI1.out.rs z (by rw [HI1.out.ll] at hz; exact hz) hzr, HRE.out]; omega) (by omega) HLOWC.out).mono ?_
    rintro e w20 ⟨vt20, rfl, hR8, hS8, hB8⟩
    have R20 := Aside0.mk hR8; have S20 := Aside0.mk (hS8 _ _ SN.out)
    have J0 := Aside0.mk (hB8 _ _ G0.out)
    have J1 := Aside0.mk (hB8 _ _ G1.out)
    have J11 := Aside0.mk (hB8 _ _ G11.out)
    clear hR8 hS8 hB8
    clear z11 z14
    have z11 := fun o => blk_cell J11.out.1 o
    have HE := Aside0.mk (show stepP x f r0 pp = (come r1 ia nx) from by rw [HSP.out]; unfold next jump isEnd isJump; simp [hop, hia])
    have HKE := Aside0.mk HSK.out; have HME := Aside0.mk HSM.out
    rw [HE.out] at HKE HME
    go_wp2
    go_roundg (meas f.regs.toNat (come r1 ia nx))
    case measure => have h1 := HME.out; have h2 := HGK.out; omega
    case rel => exact ⟨m + 1, vt20, by rw [HST.out, HE.out], ⟨by rw [HST.out, HE.out, HKE.out]; exact R20.out⟩, J0, J1⟩
  by_cases hop : i.op = 17
  · have hop2 := hop
    rw [hop] at G11
    have z11 := fun o => blk_cell G11.out.1 o; have z14 := fun o => blk_cell B14.out.1 o
    have HE := Aside0.mk (show stepP x f r0 pp = r1 from by rw [HSP.out]; unfold next jump isEnd isJump; simp [hop, hia])
    have HKE := Aside0.mk HSK.out; have HME := Aside0.mk HSM.out
    rw [HE.out] at HKE HME
    go_wp2
    go_roundg (meas f.regs.toNat r1)
    case measure => have h1 := HME.out; have h2 := HGK.out; omega
    case rel => exact ⟨m + 1, vt4, by rw [HST.out, HE.out], ⟨by rw [HST.out, HE.out, HKE.out]; exact R13.out⟩, G0, G1⟩
  by_cases hop : i.op = 18
  · have hop2 := hop
    rw [hop] at G11
    have z11 := fun o => blk_cell G11.out.1 o; have z14 := fun o => blk_cell B14.out.1 o
    have HE := Aside0.mk (show stepP x f r0 pp = r1 from by rw [HSP.out]; unfold next jump isEnd isJump; simp [hop, hia])
    have HKE := Aside0.mk HSK.out; have HME := Aside0.mk HSM.out
    rw [HE.out] at HKE HME
    go_wp2
    go_roundg (meas f.regs.toNat r1)
    case measure => have h1 := HME.out; have h2 := HGK.out; omega
    case rel => exact ⟨m + 1, vt4, by rw [HST.out, HE.out], ⟨by rw [HST.out, HE.out, HKE.out]; exact R13.out⟩, G0, G1⟩
  by_cases hop : i.op = 14
  · have hop2 := hop
    rw [hop] at G11
    have z11 := fun o => blk_cell G11.out.1 o; have z14 := fun o => blk_cell B14.out.1 o
    go_wp2_with fail
    refine (cFlow (rr.k + 1) g (w.heap.size + 2) w _ r1 vl vr _ ia nx [.int .i64 nx.acc, .slice X nx.regs.length Y] R13.out SN.out HQL.out (by have := inv_q HI1.out (by rw [HN.out]; exact hkl.2) (by rw [HRE.out]; omega); omega) (by rw [HI1.out.lr, HI1.out.ll]) (by rw [HI1.out.ll, HN.out]; omega) hln (fun z hz hzr => by rw [HI1.out.rs z (by rw [HI1.out.ll] at hz; exact hz) hzr, HRE.out]; omega) (by omega) HLOWC.out).mono ?_
    rintro e w20 ⟨vt20, rfl, hR8, hS8, hB8⟩
    have R20 := Aside0.mk hR8; have S20 := Aside0.mk (hS8 _ _ SN.out)
    have J0 := Aside0.mk (hB8 _ _ G0.out)
    have J1 := Aside0.mk (hB8 _ _ G1.out)
    have J11 := Aside0.mk (hB8 _ _ G11.out)
    have J14 := Aside0.mk (hB8 _ _ B14.out)
    clear hR8 hS8 hB8
    clear z11 z14
    have z11 := fun o => blk_cell J11.out.1 o; have z14 := fun o => blk_cell J14.out.1 o
    have HI2 := Aside0.mk (come_inv (p := ia) (s := nx) HI1.out HLN.out)
    have HI3 := Aside0.mk HI2.out.1; have HQ2 := Aside0.mk (Nat.le_trans HQL.out HI2.out.2.ql)
    have HLOW2 := Aside0.mk (R20.out.low (by rw [HI3.out.ll, HN.out]; omega))
    go_wp2_with fail
    refine (cFlow (rr.k + 1) g (w.heap.size + 2) w _ (come r1 ia nx) vl vr _ (pp + 1) nx [.int .i64 nx.acc, .slice X nx.regs.length Y] R20.out S20.out HQ2.out (by have := inv_q HI3.out (by rw [HN.out]; exact hkl.2) (by rw [HRE.out]; omega); omega) (by rw [HI3.out.lr, HI3.out.ll]) (by rw [HI3.out.ll, HN.out]; omega) hln (fun z hz hzr => by rw [HI3.out.rs z (by rw [HI3.out.ll] at hz; exact hz) hzr, HRE.out]; omega) (by omega) HLOW2.out).mono ?_
    rintro e w21 ⟨vt21, rfl, hR8, hS8, hB8⟩
    have R21 := Aside0.mk hR8; have S21 := Aside0.mk (hS8 _ _ S20.out)
    have K0 := Aside0.mk (hB8 _ _ J0.out)
    have K1 := Aside0.mk (hB8 _ _ J1.out)
    clear hR8 hS8 hB8
    have HE := Aside0.mk (show stepP x f r0 pp = (come (come r1 ia nx) (pp + 1) nx) from by rw [HSP.out]; unfold next jump isEnd isJump; simp [hop, hia])
    have HKE := Aside0.mk HSK.out; have HME := Aside0.mk HSM.out
    rw [HE.out] at HKE HME
    go_wp2
    go_roundg (meas f.regs.toNat (come (come r1 ia nx) (pp + 1) nx))
    case measure => have h1 := HME.out; have h2 := HGK.out; omega
    case rel => exact ⟨m + 1, vt21, by rw [HST.out, HE.out], ⟨by rw [HST.out, HE.out, HKE.out]; exact R21.out⟩, K0, K1⟩
  by_cases hop : i.op = 13
  · have hop2 := hop
    rw [hop] at G11
    have z11 := fun o => blk_cell G11.out.1 o; have z14 := fun o => blk_cell B14.out.1 o
    go_wp2_with fail
    refine (cFlow (rr.k + 1) g (w.heap.size + 2) w _ r1 vl vr _ ia nx [.int .i64 nx.acc, .slice X nx.regs.length Y] R13.out SN.out HQL.out (by have := inv_q HI1.out (by rw [HN.out]; exact hkl.2) (by rw [HRE.out]; omega); omega) (by rw [HI1.out.lr, HI1.out.ll]) (by rw [HI1.out.ll, HN.out]; omega) hln (fun z hz hzr => by rw [HI1.out.rs z (by rw [HI1.out.ll] at hz; exact hz) hzr, HRE.out]; omega) (by omega) HLOWC.out).mono ?_
    rintro e w20 ⟨vt20, rfl, hR8, hS8, hB8⟩
    have R20 := Aside0.mk hR8; have S20 := Aside0.mk (hS8 _ _ SN.out)
    have J0 := Aside0.mk (hB8 _ _ G0.out)
    have J1 := Aside0.mk (hB8 _ _ G1.out)
    have J11 := Aside0.mk (hB8 _ _ G11.out)
    have J14 := Aside0.mk (hB8 _ _ B14.out)
    clear hR8 hS8 hB8
    clear z11 z14
    have z11 := fun o => blk_cell J11.out.1 o; have z14 := fun o => blk_cell J14.out.1 o
    have HI2 := Aside0.mk (come_inv (p := ia) (s := nx) HI1.out HLN.out)
    have HI3 := Aside0.mk HI2.out.1; have HQ2 := Aside0.mk (Nat.le_trans HQL.out HI2.out.2.ql)
    have HLOW2 := Aside0.mk (R20.out.low (by rw [HI3.out.ll, HN.out]; omega))
    go_wp2_with fail
    refine (cFlow (rr.k + 1) g (w.heap.size + 2) w _ (come r1 ia nx) vl vr _ (pp + 1) nx [.int .i64 nx.acc, .slice X nx.regs.length Y] R20.out S20.out HQ2.out (by have := inv_q HI3.out (by rw [HN.out]; exact hkl.2) (by rw [HRE.out]; omega); omega) (by rw [HI3.out.lr, HI3.out.ll]) (by rw [HI3.out.ll, HN.out]; omega) hln (fun z hz hzr => by rw [HI3.out.rs z (by rw [HI3.out.ll] at hz; exact hz) hzr, HRE.out]; omega) (by omega) HLOW2.out).mono ?_
    rintro e w21 ⟨vt21, rfl, hR8, hS8, hB8⟩
    have R21 := Aside0.mk hR8; have S21 := Aside0.mk (hS8 _ _ S20.out)
    have K0 := Aside0.mk (hB8 _ _ J0.out)
    have K1 := Aside0.mk (hB8 _ _ J1.out)
    clear hR8 hS8 hB8
    have HE := Aside0.mk (show stepP x f r0 pp = (come (come r1 ia nx) (pp + 1) nx) from by rw [HSP.out]; unfold next jump isEnd isJump; simp [hop, hia])
    have HKE := Aside0.mk HSK.out; have HME := Aside0.mk HSM.out
    rw [HE.out] at HKE HME
    go_wp2
    go_roundg (meas f.regs.toNat (come (come r1 ia nx) (pp + 1) nx))
    case measure => have h1 := HME.out; have h2 := HGK.out; omega
    case rel => exact ⟨m + 1, vt21, by rw [HST.out, HE.out], ⟨by rw [HST.out, HE.out, HKE.out]; exact R21.out⟩, K0, K1⟩
  have q12 : (i.op == 12) = false := by simp; omega
  have q17 : (i.op == 17) = false := by simp; omega
  have q18 : (i.op == 18) = false := by simp; omega
  have q14 : (i.op == 14) = false := by simp; omega
  have q13 : (i.op == 13) = false := by simp; omega
  have r12 : (i.op != 12) = true := by simp; omega
  have r17 : (i.op != 17) = true := by simp; omega
  have r18 : (i.op != 18) = true := by simp; omega
  have z11 := fun o => blk_cell G11.out.1 o; have z14 := fun o => blk_cell B14.out.1 o
  go_wp2_with fail
  refine (cFlow (rr.k + 1) g (w.heap.size + 2) w _ r1 vl vr _ (pp + 1) nx [.int .i64 nx.acc, .slice X nx.regs.length Y] R13.out SN.out HQL.out (by have := inv_q HI1.out (by rw [HN.out]; exact hkl.2) (by rw [HRE.out]; omega); omega) (by rw [HI1.out.lr, HI1.out.ll]) (by rw [HI1.out.ll, HN.out]; omega) hln (fun z hz hzr => by rw [HI1.out.rs z (by rw [HI1.out.ll] at hz; exact hz) hzr, HRE.out]; omega) (by omega) HLOWC.out).mono ?_
  rintro e w20 ⟨vt20, rfl, hR8, hS8, hB8⟩
  have R20 := Aside0.mk hR8; have S20 := Aside0.mk (hS8 _ _ SN.out)
  have J0 := Aside0.mk (hB8 _ _ G0.out)
  have J1 := Aside0.mk (hB8 _ _ G1.out)
  clear hR8 hS8 hB8
  have HE := Aside0.mk (show stepP x f r0 pp = (come r1 (pp + 1) nx) from by rw [HSP.out]; unfold next jump isEnd isJump; rw [decide_eq_false (by omega), decide_eq_false (by omega)]; rfl)
  have HKE := Aside0.mk HSK.out; have HME := Aside0.mk HSM.out
  rw [HE.out] at HKE HME
  go_wp2
  go_roundg (meas f.regs.toNat (come r1 (pp + 1) nx))
  case measure => have h1 := HME.out; have h2 := HGK.out; omega
  case rel => exact ⟨m + 1, vt20, by rw [HST.out, HE.out], ⟨by rw [HST.out, HE.out, HKE.out]; exact R20.out⟩, J0, J1⟩
end Go.Proofs.Ytcbaokflimdjnaa.Flow
end
