/- Part 26 of the proof: general lemmas, contracts of functions, walks. No condition of its own. -/
import Derived.Test.YtcbaokflimdjnaaPV21
import Derived.Test.YtcbaokflimdjnaaPV25
import Derived.Test.YtcbaokflimdjnaaPV23
section
namespace Go.Proofs.Ytcbaokflimdjnaa.Flow
open Go.RowKit Go.Proofs.YtcbaokflimdjnaaW.PrintWords Go.Proofs.YtcbaokflimdjnaaW.PrintLast Go.Proofs.Ytcbaokflimdjnaa.Steps Go.Proofs.YtcbaokflimdjnaaW.PrintMore Go.Proofs.Ytcbaokflimdjnaa.Law Go.Proofs.Ytcbaokflimdjnaa Go.Proofs.Ytcbaokflimdjnaa.QFnExactVerify Go.Proofs.Ytcbaokflimdjnaa.Num Go.Proofs.Ytcbaokflimdjnaa.PureJoin
set_option linter.unusedVariables false
set_option linter.unusedSimpArgs false
set_option autoImplicit false
def goI.T10 : Bool × List (List Nat × List Nat) := (true, [([], []), ([], []), ([1], [1]), ([2], [2]), ([3], [3]), ([], []), ([5], [5]), ([6], [6]), ([7], [7]), ([], []), ([0, 4, 8, 9], [0, 4, 8, 9]), ([10], [10]), ([11], [11]), ([11], [11]), ([], []), ([14, 12, 10, 0, 1, 2, 3, 4, 5, 6, 7, 8, 9, 10, 11, 12, 14], [12, 14]), ([13, 15, 0, 1, 2, 3, 4, 5, 6, 7, 8, 9, 10, 11, 12, 13, 14, 15], [13])])
def goI.B10 : List Nat := [0, 0, 2, 6, 14, 0, 32, 96, 224, 0, 1023, 2047, 4095, 4095, 0, 24575, 65535]
theorem goI.tab10 : rtab .any (opsOf Try.f112 10) = goI.T10 := by kernel_rfl
theorem goI.bits10 : waitsOk goI.T10.2 goI.B10 = true := by kernel_rfl
set_option maxHeartbeats 8000000 in
set_option maxRecDepth 100000 in
theorem cGo1 (x : Image) (j : Nat) (ok : FnOk x (el zFunc x.funcs j)) (hj : j < x.funcs.length) (gx : Nat) (fa : Addr) (c0 : Nat) (A1 : Option Addr) (c1 : Nat) (g lo : Nat) (w0 w : World) (hx0 : w0.cell? ⟨gx, 0, none⟩ = some (.slice (some fa) x.funcs.length c0)) (hx1 : w0.cell? ⟨gx, 1, none⟩ = some (.slice A1 x.consts.length c1)) (g0 : kFuncI.C w0 (some fa) x.funcs.length x.funcs) (r : Fl) (vl vr vt : Value) (hr : Run 149 #[.pointer (some ⟨gx, 0, none⟩), .pointer (some (fa.add (j * 5))), vl, vr, vt, .bool r.bad] 0 g lo w0 w r vl vr vt) (hI : Inv (el zFunc x.funcs j).code.length (el zFunc x.funcs j).regs.toNat r) (p : Nat) (hp : p < (el zFunc x.funcs j).code.length) (hpr : el false r.reached p = true) :
    Calls Try.prog 112 #[.pointer (some ⟨g, 0, none⟩), .int .i64 p] w fun e w' => ∃ vt', e = .returned (.tuple #[]) ∧ Run 149 #[.pointer (some ⟨gx, 0, none⟩), .pointer (some (fa.add (j * 5))), vl, vr, vt', .bool (stepP x (el zFunc x.funcs j) r p).bad] 0 g lo w0 w' (stepP x (el zFunc x.funcs j) r p) vl vr vt' := by
  have hu := Try.underlying31; have hu1 := Try.underlying48; have hu2 := Try.underlying73; have hu3 := Try.underlying76; have hu4 := Try.underlying107; have hu5 := Try.underlying71; have hu6 := Try.underlying70; have hu7 := Try.underlying149
  obtain ⟨fa0, A2, c2, A3, c3, A4, c4, hfa, x0, x1, x2, x3, x4, hcap, hcode, hhan⟩ := func_at5 g0 j hj
  cases hfa
  have HST := Aside0.mk (fun (s : State) (i : Ins) (cs : List Value) (W : World) (hB : Below w0.heap.size w0 W) (hk : kStateI.K W s cs) (hl : s.regs.length ≤ 1048576) (hi : i ∈ (el zFunc x.funcs j).code) => cStepped x j s i cs gx fa c0 A1 c1 W hk hl (pw_cell_below hB hx0) (pw_cell_below hB hx1) (Kd.C_below g0 hB) hj (by have := ok.fl; omega) (by have := ok.cl; omega) (ok.code i hi).1 (ok.code i hi).2.1 (ok.code i hi).2.2)
  obtain ⟨f, hfe⟩ : ∃ f, f = el zFunc x.funcs j := ⟨_, rfl⟩
  rw [← hfe] at x3 x4 HST ok hI hp hcode hhan ⊢
  have F3 := Aside0.mk x3; have F4 := Aside0.mk x4; have HC := Aside0.mk hcode; have HH := Aside0.mk hhan; have OK := Aside0.mk ok; have HI := Aside0.mk hI; have HR := Aside0.mk hr; have HPR := Aside0.mk hpr
  have hkl := ok.kl; have hhl := ok.hl; have hrg := ok.rg; have hpm := ok.pr
  have hll := hI.ll; have hlrr := hI.lr
  clear hfe g0 hx0 hx1 hcap hcode hhan x0 x1 x2 x3 x4 ok hI hpr
  obtain ⟨s, hse⟩ : ∃ s, s = el zState r.list p := ⟨_, rfl⟩
  obtain ⟨i, hie⟩ : ∃ i, i = el zIns f.code p := ⟨_, rfl⟩
  have HSE := Aside0.mk hse; have HIE := Aside0.mk hie
  have HIM := Aside0.mk (show i ∈ f.code by rw [hie]; exact el_mem zIns hp)
  have HIB := Aside0.mk (show (1 ≤ i.op ∧ i.op ≤ 19) ∧ (0 ≤ i.a ∧ i.a ≤ 300) ∧ (0 ≤ i.b ∧ i.b ≤ 300) from OK.out.code i HIM.out)
  have hls0 : s.regs.length = f.regs.toNat := by rw [hse]; exact HI.out.rs p hp HPR.out
  have hls : s.regs.length ≤ 1048576 := by omega
  have HLS := Aside0.mk hls0; clear hls0
  -- the run's rows
  obtain ⟨gl, cl, hgl, hglo, hgll, _⟩ := Kd.R_form hr.L (by omega)
  obtain ⟨c, hcl, hcM, hcc, hcf⟩ := Kd.R_elem (by rw [hgl] at hr; exact hr.L) zState (p : Int) (by omega) (by omega)
  rw [Int.toNat_natCast, show r.list.getD p zState = s from hse.symm] at hcM
  obtain ⟨va, rfl, hra⟩ := kStateI_openM hcM
  obtain ⟨AS, yS, rfl⟩ := Kd.R_slice hra
  have S0 := Aside0.mk (show SOk g lo w vt s [.int .i64 s.acc, .slice AS s.regs.length yS] from kStateI.M_mono (fun k hk => hk.1) hcM)
  have e0 : w.cell? ⟨gl, p * 2, none⟩ = some (.int .i64 s.acc) := hcc 0 _ rfl
  have e1 : w.cell? ⟨gl, p * 2 + 1, none⟩ = some (.slice AS s.regs.length yS) := hcc 1 _ rfl
  have hb4 : ∀ v : Value, (∀ k, v.ownBlock = some k → k < w.heap.size) → some w.heap.size ≠ v.ownBlock := fun v h e => by have := h _ e.symm; omega
  have B4 := Aside0.mk (show BOk g vl vr vt (w.alloc (.cells #[.int .i64 s.acc, .slice AS s.regs.length yS] 31)) w.heap.size (.cells #[.int .i64 s.acc, .slice AS s.regs.length yS] 31 (0, 0)) from ⟨blk_new _ _, Nat.ne_of_gt (blk_lt hr.box), hb4 vl (Kd.R_lt hr.L), hb4 vr (Kd.R_lt hr.B), hb4 vt (Kd.Q_lt hr.Q)⟩)
  have B0 := Aside0.mk (below_alloc (Below.refl w.heap.size w) (.cells #[.int .i64 s.acc, .slice AS s.regs.length yS] 31))
  have R0 := Aside0.mk (hr.step B0.out); have S1 := Aside0.mk (S0.out.step B0.out)
  have q2 := (blk_cell hr.box 2).trans rfl
  have q1 := (blk_cell R0.out.box 1).trans rfl
  have y4 := pw_cell_below R0.out.below F4.out
  have hp0 : (0 : Int) ≤ (p : Int) := by omega
  have hp1 : (p : Int) < (r.list.length : Int) := by omega
  have hgl2 := hgl
  clear hcl hcM hcc hcf hra hb4 S0 hr hgll
  have HGL := Aside0.mk hgl2; clear hgl2
  rw [hgl] at q2
  clear hgl hse hie
  go_enter Try.func112, Try.ntmps112
  go_upto_region 2 with fail
  clear q1 q2 y4 e0 e1
  generalize w.alloc (.cells #[.int .i64 s.acc, .slice AS s.regs.length yS] 31) = wq at B4 R0 S1 ⊢
  clear B0
  go_loopw [26] (fun v wx => ∃ (q : Nat) (vt' : Value), v = .int .i64 q ∧ q ≤ f.handlers.length ∧ Aside0 (Run 149 #[.pointer (some ⟨gx, 0, none⟩), .pointer (some (fa.add (j * 5))), vl, vr, vt', .bool (handsTo f.handlers (p : Int) s r q).bad] 0 g lo w0 wx (handsTo f.handlers (p : Int) s r q) vl vr vt') ∧ Aside0 (SOk g lo wx vt' s [.int .i64 s.acc, .slice AS s.regs.length yS]) ∧ Aside0 (BOk g vl vr vt' wx w.heap.size (.cells #[.int .i64 s.acc, .slice AS s.regs.length yS] 31 (0, 0)))) (fun v _ => f.handlers.length - (intOf v).toNat)
  case atStart => exact ⟨0, vt, rfl, by omega, R0, S1, B4⟩
  case round =>
  clear R0 S1 B4
  obtain ⟨q, vt2, rfl, hq, R1, S1, B1⟩ := hrel
  have HI1 := Aside0.mk (hands_inv (hs := f.handlers) (p := (p : Int)) (s := s) HI.out HLS.out q).1
  by_cases hlt : q < f.handlers.length
  · have hle : (q : Int) < (f.handlers.length : Int) := by omega
    obtain ⟨ha, hha, hK, y0, y1, y2⟩ := Handler_at (Kd.C_below HH.out.2 R1.out.below) q hlt
    cases hha
    clear hK
    obtain ⟨h, hhe⟩ : ∃ h, h = el zHandler f.handlers q := ⟨_, rfl⟩
    rw [← hhe] at y0 y1 y2
    have HHE := Aside0.mk hhe; clear hhe
    have HHB := Aside0.mk (show (0 ≤ h.from_ ∧ h.from_ ≤ 300) ∧ (0 ≤ h.to_ ∧ h.to_ ≤ 300) ∧ (0 ≤ h.target ∧ h.target ≤ 300) from OK.out.hand h (by rw [HHE.out]; exact el_mem zHandler hlt))
    have i6 : IntKind.i64.wrap (h.to_ - 1) = h.to_ - 1 := IntWalk.i64_in _ (by have := HHB.out; omega)
    have i7 : wrap64 (h.to_ - 1) = h.to_ - 1 := wrap64_id (by have := HHB.out; omega) (by have := HHB.out; omega)
    have M2 := Aside0.mk ((Mem.start wr).allocAt rfl #[.int .i64 h.from_, .int .i64 h.to_, .int .i64 h.target] 107)
    go_upto_region 4 with fail
    clear y0 y1 y2
    generalize hwt : wr.alloc (.cells #[.int .i64 h.from_, .int .i64 h.to_, .int .i64 h.target] 107) = wt at M2 ⊢
    clear hwt
    have z0 := M2.out.box (.head _)
    go_wp2_with fail
    refine (impl_within.calls _ _ _ _ _ (Img.impl_in (p : Int) h.from_ (h.to_ - 1))).mono ?_; rintro e w3 ⟨rfl, ⟨⟨n3, rfl⟩⟩⟩
    have M3 := Aside0.mk (M2.out.draw n3); clear M2 z0
    generalize wt.drewN n3 = wu at M3 ⊢
    rcases Bool.eq_false_or_eq_true (Img.inB (p : Int) h.from_ (h.to_ - 1)) with hin | hin
    rotate_left
    · rw [hin]
      have hno : handsTo f.handlers (p : Int) s r (q + 1) = handsTo f.handlers (p : Int) s r q := by
        have h2 := of_decide_eq_false hin
        show (if (el zHandler f.handlers q).from_ ≤ (p : Int) ∧ (p : Int) < (el zHandler f.handlers q).to_ then _ else _) = _
        rw [← HHE.out, if_neg (by omega)]
      have HNO := Aside0.mk hno; clear hno hin
      go_wp2
      go_roundw
      case measure => simp [intOf]; omega
      case rel => exact ⟨q + 1, vt2, by go_num, by omega, ⟨by rw [HNO.out]; exact R1.out.step M3.out.below⟩, ⟨S1.out.step M3.out.below⟩, ⟨B1.out.step M3.out.below⟩⟩
    · rw [hin]
      have HYE := Aside0.mk (show handsTo f.handlers (p : Int) s r (q + 1) = come (handsTo f.handlers (p : Int) s r q) h.target.toNat ⟨1, s.regs⟩ by
        have h2 := of_decide_eq_true hin
        show (if (el zHandler f.handlers q).from_ ≤ (p : Int) ∧ (p : Int) < (el zHandler f.handlers q).to_ then _ else _) = _
        rw [← HHE.out, if_pos (by omega)])
      clear hin
      obtain ⟨tg, htg⟩ : ∃ tg : Nat, h.target = tg := ⟨h.target.toNat, by have := HHB.out; omega⟩
      have htg3 : tg ≤ 300 := by have := HHB.out; omega
      rw [htg] at HYE M3
      rw [Int.toNat_natCast] at HYE
      have z0 := M3.out.box (.head _)
      have z4 := fun o => blk_cell (B1.out.step M3.out.below).1 o
      go_wp2_with fail
      refine (cCopy s _ _ (S1.out.step M3.out.below).K hls).mono ?_; rintro e w5 ⟨ds, rfl, hm, hb5⟩; obtain ⟨v5, rfl, hr5⟩ := kStateI_openM hm; obtain ⟨X5, y5, rfl⟩ := Kd.R_slice hr5
      have M5 := Aside0.mk (M3.out.push hb5 hm); have HWU := Aside0.mk M3.out.below.size; clear hm hb5 hr5 z0 z4 M3
      obtain ⟨g7, hg7⟩ : ∃ g7 : Nat, g7 = w5.heap.size := ⟨_, rfl⟩
      have M6 := Aside0.mk (M5.out.allocAt hg7 #[.int .i64 s.acc, .slice X5 s.regs.length y5] 31); clear M5
      go_upto_region 6 with fail
      rw [← hg7]
      generalize w5.alloc (.cells #[.int .i64 s.acc, .slice X5 s.regs.length y5] 31) = w6 at M6 ⊢
      clear hg7
      have z7 := M6.out.box (.head _); have f7 := M6.out.free (.head _)
      have M7 := Aside0.mk (Mem.set (A := []) M6.out 0 (.int .i64 1) rfl)
      go_upto_region 7 with fail
      generalize w6.setCell ⟨g7, 0, none⟩ (.int .i64 1) = w7 at M7 ⊢
      clear M6 z7 f7
      have z7 := M7.out.box (.head _); have z0 := M7.out.box (.tail _ (.tail _ (.head _)))
      go_wp2_with fail
      have RL := R1.out.lt
      refine (cCome 0 g lo w0 w7 (handsTo f.handlers (p : Int) s r q) (.pointer (some ⟨gx, 0, none⟩)) (.pointer (some (fa.add (j * 5)))) vl vr vt2 tg ⟨1, s.regs⟩ [.int .i64 1, .slice X5 s.regs.length y5] (R1.out.step M7.out.below) (SOk.of_val (M7.out.val (.tail _ (.head _))) (Nat.le_trans (R1.out.low (by rw [HI1.out.ll]; omega)) HWU.out) (Nat.lt_of_lt_of_le RL.1 HWU.out) (fun k hk => Nat.lt_of_lt_of_le (RL.2 k hk) HWU.out)) (Nat.zero_le _) (by have := inv_q HI1.out hkl.2 (by omega); omega) (by rw [HI1.out.lr, HI1.out.ll]) (by rw [HI1.out.ll]; omega) hls (fun z hz hzr => by rw [HI1.out.rs z (by rw [HI1.out.ll] at hz; exact hz) hzr]; omega) (by omega) (Nat.le_trans (R1.out.low (by rw [HI1.out.ll]; omega)) M7.out.below.size)).mono ?_
      rintro e w8 ⟨vt3, rfl, hR8, hS8, hB8⟩
      have R8 := Aside0.mk hR8; have S8 := Aside0.mk (hS8 _ _ (S1.out.step M7.out.below)); have B8 := Aside0.mk (hB8 _ _ (B1.out.step M7.out.below))
      clear hR8 hS8 hB8 z0 z7 RL
      go_wp2
      go_roundw
      case measure => simp [intOf]; omega
      case rel => exact ⟨q + 1, vt3, by go_num, by omega, ⟨by rw [HYE.out]; exact R8.out⟩, S8, B8⟩
  · have hle : ¬ (q : Int) < (f.handlers.length : Int) := by omega
    obtain rfl : q = f.handlers.length := by omega
    obtain ⟨r1, hr1⟩ : ∃ r1, r1 = handsTo f.handlers (p : Int) s r f.handlers.length := ⟨_, rfl⟩
    rw [← hr1] at R1 HI1
    have HR1 := Aside0.mk hr1; clear hr1
    have q1 := (blk_cell R1.out.box 1).trans rfl
    have y3 := pw_cell_below R1.out.below F3.out
    obtain ⟨ka, hka, kK, k0, k1, k2⟩ := Ins_at (Kd.C_below HC.out.2 R1.out.below) p hp
    cases hka
    clear kK
    rw [← HIE.out] at k0 k1 k2
    have hpk : (p : Int) < (f.code.length : Int) := by omega
    have M2 := Aside0.mk ((Mem.start wr).allocAt rfl #[.int .i64 i.op, .int .i64 i.a, .int .i64 i.b] 76)
    go_upto_region 10 with fail
    clear q1 y3 k0 k1 k2
    obtain ⟨g8, hg8⟩ : ∃ g8 : Nat, g8 = wr.heap.size := ⟨_, rfl⟩
    rw [← hg8] at M2 ⊢
    have HG8 := Aside0.mk hg8; clear hg8
    generalize hwt : wr.alloc (.cells #[.int .i64 i.op, .int .i64 i.a, .int .i64 i.b] 76) = wt at M2 ⊢
    clear hwt
    obtain ⟨L, HL, ML⟩ := Mem.hide M2
    have E8 := Aside0.mk (show Hold.box g8 #[.int .i64 i.op, .int .i64 i.a, .int .i64 i.b] 76 ∈ L from HL.out ▸ (.head _))
    clear M2

    obtain ⟨nx, hnx⟩ : ∃ nx, nx = stepped x f i s := ⟨_, rfl⟩
    have HNX := Aside0.mk hnx; clear hnx
    go_cut [9, 10] (fun u v wx => ∃ (g9 : Nat) (X : Option Addr) (Y lo9 hi9 : Nat), u = .pointer (some ⟨g9, 0, none⟩) ∧ v = .bool (stepOk x f i s) ∧ Aside0 (Mem wr wx (Hold.box g9 #[.int .i64 nx.acc, .slice X nx.regs.length Y] 31 :: Hold.val kStateI lo9 hi9 nx [.int .i64 nx.acc, .slice X nx.regs.length Y] :: L)))
    case first =>
      refine sz 17 (fun W => W.cell? ⟨w.heap.size, 0, none⟩ = some (.int .i64 s.acc) ∧ W.cell? ⟨w.heap.size, 1, none⟩ = some (.slice AS s.regs.length yS) ∧ W.cell? ⟨g, 0, none⟩ = some (.pointer (some ⟨gx, 0, none⟩)) ∧ W.cell? ⟨g, 1, none⟩ = some (.pointer (some (fa.add (j * 5)))) ∧ W.cell? ⟨g8, 0, none⟩ = some (.int .i64 i.op) ∧ W.cell? ⟨g8, 1, none⟩ = some (.int .i64 i.a) ∧ W.cell? ⟨g8, 2, none⟩ = some (.int .i64 i.b)) [15] goI.tab10 goI.bits10 ⟨(blk_cell (B1.out.step ML.out.drew.below).1 0).trans rfl, (blk_cell (B1.out.step ML.out.drew.below).1 1).trans rfl, (blk_cell (R1.out.step ML.out.drew.below).box 0).trans rfl, (blk_cell (R1.out.step ML.out.drew.below).box 1).trans rfl, (ML.out.drew.box E8.out 0).trans rfl, (ML.out.drew.box E8.out 1).trans rfl, (ML.out.drew.box E8.out 2).trans rfl⟩ (fun HT_ HW_ hHeld => ?_)
      have MD := Aside0.mk ML.out.drew
      generalize wt.drew = wd at MD hHeld ⊢
      refine pz 1 58 ?_; refine pz 2 59 ?_; refine pz 3 60 ?_; refine pz 5 62 ?_; refine pz 6 63 ?_; refine pz 7 64 ?_; refine tz 0 57 ?_; refine tz 4 61 ?_; refine tz 8 65 ?_; refine tz 9 66 ?_
      refine twz 10 14 (some 67) (some 9) (fun K hK => ?_) (fun K hK => ?_)
      · skip
        refine gz Try.func61 #[.agg #[.int .i64 s.acc, .slice AS s.regs.length yS], .pointer (some ⟨gx, 0, none⟩), .pointer (some (fa.add (j * 5))), .agg #[.int .i64 i.op, .int .i64 i.a, .int .i64 i.b]] ?_
        refine (HST.out s i [.int .i64 s.acc, .slice AS s.regs.length yS] _ (R1.out.step MD.out.below).below (S1.out.step MD.out.below).K hls HIM.out).mono ?_
        rintro e c0 ⟨ds, rfl, hm, hb9⟩; rw [← HNX.out] at hm; obtain ⟨v9, rfl, hr9⟩ := kStateI_openM hm; obtain ⟨X9, y9, rfl⟩ := Kd.R_slice hr9
        have Mc0 := Aside0.mk (MD.out.push hb9 hm); clear hm hb9 hr9
        refine ⟨_, rfl, ?_⟩
        refine hK.out _ _ ⟨(blk_cell (B1.out.step Mc0.out.below).1 0).trans rfl, (blk_cell (B1.out.step Mc0.out.below).1 1).trans rfl, (blk_cell (R1.out.step Mc0.out.below).box 0).trans rfl, (blk_cell (R1.out.step Mc0.out.below).box 1).trans rfl, (Mc0.out.box (List.Mem.tail _ E8.out) 0).trans rfl, (Mc0.out.box (List.Mem.tail _ E8.out) 1).trans rfl, (Mc0.out.box (List.Mem.tail _ E8.out) 2).trans rfl⟩ (fun hHeld => ?_); clear hK K; refine kz (some 67) ?_
        refine pz 11 56 ?_; refine pz 12 68 ?_; refine pz 13 69 ?_
        refine ez 14 (some 9) (fun K hK => ?_)
        refine box_step ?hg (N := 9) ?hd (cs := #[.int .i64 0, .slice none 0 0]) (t := 31) ?hr ?_; (case hd => rfl); (case hg => rfl); (case hr => first | (go_simp; done) | (go_simp; rfl))
        intro g9 hg9 a1 hbx hbb
        have Ma1 := Aside0.mk (Mc0.out.boxed hg9 hbx hbb); clear hg9 hbx hbb
        refine hK.out _ _ ⟨(blk_cell (B1.out.step Ma1.out.below).1 0).trans rfl, (blk_cell (B1.out.step Ma1.out.below).1 1).trans rfl, (blk_cell (R1.out.step Ma1.out.below).box 0).trans rfl, (blk_cell (R1.out.step Ma1.out.below).box 1).trans rfl, (Ma1.out.box (List.Mem.tail _ (List.Mem.tail _ E8.out)) 0).trans rfl, (Ma1.out.box (List.Mem.tail _ (List.Mem.tail _ E8.out)) 1).trans rfl, (Ma1.out.box (List.Mem.tail _ (List.Mem.tail _ E8.out)) 2).trans rfl⟩ (fun hHeld => ?_); clear hK K; refine kz (some 9) ?_
        refine lz 15 none (fun K hK => ?_)
        have b0 := Ma1.out.box (.head _); have b1 := Ma1.out.free (.head _)
        refine skip_ (w1 := ?_) (by rfl) rfl ?_ ?_
        rotate_left
        · go_simp
          rfl
        clear b0 b1
        refine hK.out _ _ ?_; clear hK K
        refine pz 16 10 ?_
        refine dz ?_
        have MF := Aside0.mk (Mem.set (A := []) (Mem.set (A := []) Ma1.out 0 (.int .i64 nx.acc) rfl) 1 (.slice X9 nx.regs.length y9) rfl)
        clear hHeld
        try go_wp2_with fail
        go_meet
        exact ⟨_, _, _, _, _, rfl, rfl, MF⟩
      · skip
        refine box_step ?hg (N := 9) ?hd (cs := #[.int .i64 0, .slice none 0 0]) (t := 31) ?hr ?_; (case hd => rfl); (case hg => rfl); (case hr => first | (go_simp; done) | (go_simp; rfl))
        intro g9 hg9 a0 hbx hbb
        have Ma0 := Aside0.mk (MD.out.boxed hg9 hbx hbb); clear hg9 hbx hbb
        refine hK.out _ _ ⟨(blk_cell (B1.out.step Ma0.out.below).1 0).trans rfl, (blk_cell (B1.out.step Ma0.out.below).1 1).trans rfl, (blk_cell (R1.out.step Ma0.out.below).box 0).trans rfl, (blk_cell (R1.out.step Ma0.out.below).box 1).trans rfl, (Ma0.out.box (List.Mem.tail _ E8.out) 0).trans rfl, (Ma0.out.box (List.Mem.tail _ E8.out) 1).trans rfl, (Ma0.out.box (List.Mem.tail _ E8.out) 2).trans rfl⟩ (fun hHeld => ?_); clear hK K; refine kz (some 9) ?_
        refine ez 10 (some 67) (fun K hK => ?_)
        refine gz Try.func61 #[.agg #[.int .i64 s.acc, .slice AS s.regs.length yS], .pointer (some ⟨gx, 0, none⟩), .pointer (some (fa.add (j * 5))), .agg #[.int .i64 i.op, .int .i64 i.a, .int .i64 i.b]] ?_
        refine (HST.out s i [.int .i64 s.acc, .slice AS s.regs.length yS] _ (R1.out.step Ma0.out.below).below (S1.out.step Ma0.out.below).K hls HIM.out).mono ?_
        rintro e c1 ⟨ds, rfl, hm, hb9⟩; rw [← HNX.out] at hm; obtain ⟨v9, rfl, hr9⟩ := kStateI_openM hm; obtain ⟨X9, y9, rfl⟩ := Kd.R_slice hr9
        have Mc1 := Aside0.mk (Ma0.out.push hb9 hm); clear hm hb9 hr9
        refine ⟨_, rfl, ?_⟩
        refine hK.out _ _ ⟨(blk_cell (B1.out.step Mc1.out.below).1 0).trans rfl, (blk_cell (B1.out.step Mc1.out.below).1 1).trans rfl, (blk_cell (R1.out.step Mc1.out.below).box 0).trans rfl, (blk_cell (R1.out.step Mc1.out.below).box 1).trans rfl, (Mc1.out.box (List.Mem.tail _ (List.Mem.tail _ E8.out)) 0).trans rfl, (Mc1.out.box (List.Mem.tail _ (List.Mem.tail _ E8.out)) 1).trans rfl, (Mc1.out.box (List.Mem.tail _ (List.Mem.tail _ E8.out)) 2).trans rfl⟩ (fun hHeld => ?_); clear hK K; refine kz (some 67) ?_
        refine pz 11 56 ?_; refine pz 12 68 ?_; refine pz 13 69 ?_
        refine lz 15 none (fun K hK => ?_)
        have b0 := Mc1.out.box (.tail _ (.head _)); have b1 := Mc1.out.free (.tail _ (.head _))
        refine skip_ (w1 := ?_) (by rfl) rfl ?_ ?_
        rotate_left
        · go_simp
          rfl
        clear b0 b1
        refine hK.out _ _ ?_; clear hK K
        refine pz 16 10 ?_
        refine dz ?_
        have MF := Aside0.mk (Mem.set (A := [_]) (Mem.set (A := [_]) Mc1.out 0 (.int .i64 nx.acc) rfl) 1 (.slice X9 nx.regs.length y9) rfl).swap2
        clear hHeld
        try go_wp2_with fail
        go_meet
        exact ⟨_, _, _, _, _, rfl, rfl, MF⟩
    case rest =>
    obtain ⟨g9, X, Y, lo9, hi9, rfl, rfl, M3⟩ := hcut
    have hl := HL.out; subst hl; clear HL E8 ML
    have hrl := R1.out.low (by rw [HI1.out.ll]; omega)
    have hrt := R1.out.lt
    have hv9 := (M3.out.fits _ (.tail _ (.head _))).1; have hg9 := (M3.out.fits _ (.head _)).1
    have hv9' : wr.heap.size ≤ lo9 := hv9
    have hg9' : wr.heap.size ≤ g9 := hg9
    have R3 := Aside0.mk (R1.out.step M3.out.below)
    have S3 := Aside0.mk (SOk.of_val (g := g) (lo := lo) (vt := vt2) (a2 := nx.acc) (M3.out.val (.tail _ (.head _))) (by omega) (by omega) (fun k hk => by have := hrt.2 k hk; omega))
    have hnb : ∀ v : Value, (∀ k, v.ownBlock = some k → k < wr.heap.size) → some g9 ≠ v.ownBlock := fun v h e => by have := h _ e.symm; omega
    have B3 := Aside0.mk (show BOk g vl vr vt2 _ g9 (.cells #[.int .i64 nx.acc, .slice X nx.regs.length Y] 31 (0, 0)) from ⟨M3.out.blk (.head _), by omega, hnb vl (Kd.R_lt R1.out.L), hnb vr (Kd.R_lt R1.out.B), hnb vt2 (Kd.Q_lt R1.out.Q)⟩)
    have HLOW := Aside0.mk (Nat.le_trans hrl M3.out.below.size)
    have HOKM := Aside0.mk (show stepOk x f i s = mayB x f i s from by unfold stepOk; rw [decide_eq_true (by have := HLS.out; omega)]; rfl)
    have HSP := Aside0.mk (show stepP x f r p = if mayB x f i s = true then next (jump r1 i (afterS i s)) i p (afterS i s) else { r1 with bad := true } from by unfold stepP; rw [← HSE.out, ← HIE.out, ← HR1.out])
    clear hrl hrt hv9 hg9 hv9' hg9' hnb R1 S1 B1
    rw [HOKM.out]
    have z8 := M3.out.box (.tail _ (.tail _ (.head _))); have z9 := M3.out.box (.head _)
    rcases Bool.eq_false_or_eq_true (mayB x f i s) with hmb | hmb
    rotate_left
    · rw [hmb]
      have HF := Aside0.mk (show stepP x f r p = { r1 with bad := true } from by rw [HSP.out, if_neg (by rw [hmb]; decide)])
      have q5 := (blk_cell R3.out.box 5).trans rfl; have f5 := blk_frozen R3.out.box 5
      have RF := Aside0.mk ((R3.out.set 5 (.bool true) rfl).as (r2 := { r1 with bad := true }) rfl rfl rfl)
      clear hmb
      go_wp2
      first | go_end0 | ((try simp only [Exit.inBlock, Exit.then]); refine bodyPost_ret (results_none rfl _ _ _) rfl ?_)
      rw [HF.out]
      first | exact ⟨_, rfl, RF.out⟩ | exact ⟨rfl, _, RF.out⟩
    rw [hmb]
    have HNA := Aside0.mk (show nx = afterS i s from by rw [HNX.out]; unfold stepped; rw [if_pos (by rw [HOKM.out]; exact hmb)])
    have HF := Aside0.mk (show stepP x f r p = next (jump r1 i nx) i p nx from by rw [HSP.out, if_pos hmb, HNA.out])
    have HLN := Aside0.mk (show nx.regs.length = f.regs.toNat from by rw [HNA.out, after_len]; exact HLS.out)
    have hln : nx.regs.length ≤ 1048576 := by have := HLN.out; omega
    clear hmb
    obtain ⟨ia, hia⟩ : ∃ ia : Nat, i.a = ia := ⟨i.a.toNat, by have := HIB.out; omega⟩
    have hia3 : ia ≤ 300 := by have := HIB.out; omega
    rw [hia] at z8
    by_cases hop : i.op = 12
    · rw [hop] at z8
      go_wp2_with fail
      refine (cCome 0 g lo w0 _ r1 (.pointer (some ⟨gx, 0, none⟩)) (.pointer (some (fa.add (j * 5)))) vl vr _ ia nx [.int .i64 nx.acc, .slice X nx.regs.length Y] R3.out S3.out (Nat.zero_le _) (by have := inv_q HI1.out hkl.2 (by omega); omega) (by rw [HI1.out.lr, HI1.out.ll]) (by rw [HI1.out.ll]; omega) hln (fun z hz hzr => by rw [HI1.out.rs z (by rw [HI1.out.ll] at hz; exact hz) hzr]; omega) (by omega) HLOW.out).mono ?_
      rintro e w10 ⟨vt10, rfl, hR8, hS8, hB8⟩
      have R10 := Aside0.mk hR8; have S10 := Aside0.mk (hS8 _ _ S3.out); have B10 := Aside0.mk (hB8 _ _ B3.out); clear hR8 hS8 hB8
      go_wp2
      first | go_end0 | ((try simp only [Exit.inBlock, Exit.then]); refine bodyPost_ret (results_none rfl _ _ _) rfl ?_)
      have HE := Aside0.mk (show stepP x f r p = (come r1 ia nx) from by rw [HF.out]; unfold next jump isEnd isJump; simp [hop, hia])
      rw [HE.out]
      first | exact ⟨_, rfl, R10.out⟩ | exact ⟨rfl, _, R10.out⟩
    by_cases hop : i.op = 17
    · rw [hop] at z8
      go_wp2
      first | go_end0 | ((try simp only [Exit.inBlock, Exit.then]); refine bodyPost_ret (results_none rfl _ _ _) rfl ?_)
      have HE := Aside0.mk (show stepP x f r p = r1 from by rw [HF.out]; unfold next jump isEnd isJump; simp [hop, hia])
      rw [HE.out]
      first | exact ⟨_, rfl, R3.out⟩ | exact ⟨rfl, _, R3.out⟩
    by_cases hop : i.op = 18
    · rw [hop] at z8
      go_wp2
      first | go_end0 | ((try simp only [Exit.inBlock, Exit.then]); refine bodyPost_ret (results_none rfl _ _ _) rfl ?_)
      have HE := Aside0.mk (show stepP x f r p = r1 from by rw [HF.out]; unfold next jump isEnd isJump; simp [hop, hia])
      rw [HE.out]
      first | exact ⟨_, rfl, R3.out⟩ | exact ⟨rfl, _, R3.out⟩
    by_cases hop : i.op = 14
    · rw [hop] at z8
      go_wp2_with fail
      refine (cCome 0 g lo w0 _ r1 (.pointer (some ⟨gx, 0, none⟩)) (.pointer (some (fa.add (j * 5)))) vl vr _ ia nx [.int .i64 nx.acc, .slice X nx.regs.length Y] R3.out S3.out (Nat.zero_le _) (by have := inv_q HI1.out hkl.2 (by omega); omega) (by rw [HI1.out.lr, HI1.out.ll]) (by rw [HI1.out.ll]; omega) hln (fun z hz hzr => by rw [HI1.out.rs z (by rw [HI1.out.ll] at hz; exact hz) hzr]; omega) (by omega) HLOW.out).mono ?_
      rintro e w10 ⟨vt10, rfl, hR8, hS8, hB8⟩
      have R10 := Aside0.mk hR8; have S10 := Aside0.mk (hS8 _ _ S3.out); have B10 := Aside0.mk (hB8 _ _ B3.out); clear hR8 hS8 hB8
      clear z8 z9
      have z9 := fun o => blk_cell B10.out.1 o
      have HI2 := Aside0.mk (come_inv (p := ia) (s := nx) HI1.out HLN.out).1
      have HLOW2 := Aside0.mk (R10.out.low (by rw [HI2.out.ll]; omega))
      go_wp2_with fail
      refine (cCome 0 g lo w0 _ (come r1 ia nx) (.pointer (some ⟨gx, 0, none⟩)) (.pointer (some (fa.add (j * 5)))) vl vr _ (p + 1) nx [.int .i64 nx.acc, .slice X nx.regs.length Y] R10.out S10.out (Nat.zero_le _) (by have := inv_q HI2.out hkl.2 (by omega); omega) (by rw [HI2.out.lr, HI2.out.ll]) (by rw [HI2.out.ll]; omega) hln (fun z hz hzr => by rw [HI2.out.rs z (by rw [HI2.out.ll] at hz; exact hz) hzr]; omega) (by omega) HLOW2.out).mono ?_
      rintro e w11 ⟨vt11, rfl, hR8, hS8, hB8⟩
      have R11 := Aside0.mk hR8; have S11 := Aside0.mk (hS8 _ _ S10.out); have B11 := Aside0.mk (hB8 _ _ B10.out); clear hR8 hS8 hB8
      go_wp2
      first | go_end0 | ((try simp only [Exit.inBlock, Exit.then]); refine bodyPost_ret (results_none rfl _ _ _) rfl ?_)
      have HE := Aside0.mk (show stepP x f r p = (come (come r1 ia nx) (p + 1) nx) from by rw [HF.out]; unfold next jump isEnd isJump; simp [hop, hia])
      rw [HE.out]
      first | exact ⟨_, rfl, R11.out⟩ | exact ⟨rfl, _, R11.out⟩
    by_cases hop : i.op = 13
    · rw [hop] at z8
      go_wp2_with fail
      refine (cCome 0 g lo w0 _ r1 (.pointer (some ⟨gx, 0, none⟩)) (.pointer (some (fa.add (j * 5)))) vl vr _ ia nx [.int .i64 nx.acc, .slice X nx.regs.length Y] R3.out S3.out (Nat.zero_le _) (by have := inv_q HI1.out hkl.2 (by omega); omega) (by rw [HI1.out.lr, HI1.out.ll]) (by rw [HI1.out.ll]; omega) hln (fun z hz hzr => by rw [HI1.out.rs z (by rw [HI1.out.ll] at hz; exact hz) hzr]; omega) (by omega) HLOW.out).mono ?_
      rintro e w10 ⟨vt10, rfl, hR8, hS8, hB8⟩
      have R10 := Aside0.mk hR8; have S10 := Aside0.mk (hS8 _ _ S3.out); have B10 := Aside0.mk (hB8 _ _ B3.out); clear hR8 hS8 hB8
      clear z8 z9
      have z9 := fun o => blk_cell B10.out.1 o
      have HI2 := Aside0.mk (come_inv (p := ia) (s := nx) HI1.out HLN.out).1
      have HLOW2 := Aside0.mk (R10.out.low (by rw [HI2.out.ll]; omega))
      go_wp2_with fail
      refine (cCome 0 g lo w0 _ (come r1 ia nx) (.pointer (some ⟨gx, 0, none⟩)) (.pointer (some (fa.add (j * 5)))) vl vr _ (p + 1) nx [.int .i64 nx.acc, .slice X nx.regs.length Y] R10.out S10.out (Nat.zero_le _) (by have := inv_q HI2.out hkl.2 (by omega); omega) (by rw [HI2.out.lr, HI2.out.ll]) (by rw [HI2.out.ll]; omega) hln (fun z hz hzr => by rw [HI2.out.rs z (by rw [HI2.out.ll] at hz; exact hz) hzr]; omega) (by omega) HLOW2.out).mono ?_
      rintro e w11 ⟨vt11, rfl, hR8, hS8, hB8⟩
      have R11 := Aside0.mk hR8; have S11 := Aside0.mk (hS8 _ _ S10.out); have B11 := Aside0.mk (hB8 _ _ B10.out); clear hR8 hS8 hB8
      go_wp2
      first | go_end0 | ((try simp only [Exit.inBlock, Exit.then]); refine bodyPost_ret (results_none rfl _ _ _) rfl ?_)
      have HE := Aside0.mk (show stepP x f r p = (come (come r1 ia nx) (p + 1) nx) from by rw [HF.out]; unfold next jump isEnd isJump; simp [hop, hia])
      rw [HE.out]
      first | exact ⟨_, rfl, R11.out⟩ | exact ⟨rfl, _, R11.out⟩
    have q12 : (i.op == 12) = false := by simp; omega
    have q17 : (i.op == 17) = false := by simp; omega
    have q18 : (i.op == 18) = false := by simp; omega
    have q14 : (i.op == 14) = false := by simp; omega
    have q13 : (i.op == 13) = false := by simp; omega
    go_wp2_with fail
    refine (cCome 0 g lo w0 _ r1 (.pointer (some ⟨gx, 0, none⟩)) (.pointer (some (fa.add (j * 5)))) vl vr _ (p + 1) nx [.int .i64 nx.acc, .slice X nx.regs.length Y] R3.out S3.out (Nat.zero_le _) (by have := inv_q HI1.out hkl.2 (by omega); omega) (by rw [HI1.out.lr, HI1.out.ll]) (by rw [HI1.out.ll]; omega) hln (fun z hz hzr => by rw [HI1.out.rs z (by rw [HI1.out.ll] at hz; exact hz) hzr]; omega) (by omega) HLOW.out).mono ?_
    rintro e w10 ⟨vt10, rfl, hR8, hS8, hB8⟩
    have R10 := Aside0.mk hR8; have S10 := Aside0.mk (hS8 _ _ S3.out); have B10 := Aside0.mk (hB8 _ _ B3.out); clear hR8 hS8 hB8
    go_wp2
    first | go_end0 | ((try simp only [Exit.inBlock, Exit.then]); refine bodyPost_ret (results_none rfl _ _ _) rfl ?_)
    have HE := Aside0.mk (show stepP x f r p = come r1 (p + 1) nx from by rw [HF.out]; unfold next jump isEnd isJump; rw [decide_eq_false (by omega), decide_eq_false (by omega)]; rfl)
    rw [HE.out]
    first | exact ⟨_, rfl, R10.out⟩ | exact ⟨rfl, _, R10.out⟩
end Go.Proofs.Ytcbaokflimdjnaa.Flow
end
