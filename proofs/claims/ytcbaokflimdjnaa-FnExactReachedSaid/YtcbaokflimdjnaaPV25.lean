/- Part 25 of the proof: general lemmas, contracts of functions, walks. No condition of its own. -/
import Derived.Test.YtcbaokflimdjnaaPV23
section
namespace Go.Proofs.Ytcbaokflimdjnaa.Flow
open Go.RowKit Go.Proofs.YtcbaokflimdjnaaW.PrintWords Go.Proofs.YtcbaokflimdjnaaW.PrintLast Go.Proofs.Ytcbaokflimdjnaa.Steps Go.Proofs.YtcbaokflimdjnaaW.PrintMore Go.Proofs.Ytcbaokflimdjnaa.Law Go.Proofs.Ytcbaokflimdjnaa Go.Proofs.Ytcbaokflimdjnaa.QFnExactVerify Go.Proofs.Ytcbaokflimdjnaa.Num Go.Proofs.Ytcbaokflimdjnaa.PureJoin
set_option linter.unusedVariables false
set_option linter.unusedSimpArgs false
set_option autoImplicit false
def flowC.T4 : Bool × List (List Nat × List Nat) := (true, [([], []), ([0], [0]), ([1], [1]), ([2], [2]), ([], []), ([3, 4], [3, 4]), ([5], [5]), ([], []), ([6, 7], [6, 7]), ([8, 8, 0, 1, 2, 3, 4, 5, 6, 7, 8], [8])])
def flowC.B4 : List Nat := [0, 1, 3, 7, 0, 31, 63, 0, 255, 511]
theorem flowC.tab4 : rtab .any (opsOf Try.f111 4) = flowC.T4 := by kernel_rfl
theorem flowC.bits4 : waitsOk flowC.T4.2 flowC.B4 = true := by kernel_rfl
def flowC.T5 : Bool × List (List Nat × List Nat) := (true, [([], []), ([0], [0]), ([], []), ([2], [2]), ([3], [3]), ([4], [4]), ([], []), ([5, 6], [5, 6]), ([7], [7]), ([8], [8]), ([1, 9], [1, 9]), ([10], [10]), ([11], [11]), ([12, 11], [11, 12]), ([11], [11]), ([14, 11], [11, 14]), ([15, 11], [11, 15]), ([16, 11], [11, 16]), ([11], [11]), ([17, 18, 11], [11, 17, 18]), ([19, 11], [11, 19]), ([20, 11], [11, 20]), ([13, 21, 11, 11], [11, 13, 21]), ([11, 22], [11, 22])])
def flowC.B5 : List Nat := [0, 1, 0, 4, 12, 28, 0, 124, 252, 508, 1023, 2047, 4095, 8191, 4095, 20479, 53247, 118783, 4095, 511999, 1036287, 2084863, 4194303, 8388607]
theorem flowC.tab5 : rtab .any (opsOf Try.f111 5) = flowC.T5 := by kernel_rfl
theorem flowC.bits5 : waitsOk flowC.T5.2 flowC.B5 = true := by kernel_rfl
def flowC.T6 : Bool × List (List Nat × List Nat) := (true, [([], []), ([0], [0]), ([1], [1]), ([2], [2]), ([], []), ([], []), ([5], [5]), ([3, 4, 0, 1, 2, 3, 4, 5, 6], [3, 4]), ([7, 6, 6, 0, 1, 2, 3, 4, 5, 6], [6, 7])])
def flowC.B6 : List Nat := [0, 1, 3, 7, 0, 0, 32, 127, 255]
theorem flowC.tab6 : rtab .any (opsOf Try.f111 6) = flowC.T6 := by kernel_rfl
theorem flowC.bits6 : waitsOk flowC.T6.2 flowC.B6 = true := by kernel_rfl
set_option maxHeartbeats 8000000 in
set_option maxRecDepth 100000 in
theorem cCome (d g lo : Nat) (w0 w : World) (r : Fl) (px pf : Value) (vl vr vt : Value) (p : Nat) (s : State) (cs : List Value)
    (hr : Run 149 #[px, pf, vl, vr, vt, .bool r.bad] d g lo w0 w r vl vr vt) (hs : SOk g lo w vt s cs) (hd : d ≤ r.queue.length) (hq : r.queue.length ≤ 1000000) (hlr : r.reached.length = r.list.length) (hll : r.list.length ≤ 1048576) (hls : s.regs.length ≤ 1048576) (hle : ∀ i : Nat, i < r.list.length → el false r.reached i = true → (el zState r.list i).regs.length ≤ 1048576) (hp : p ≤ 1000000) (hlow : lo ≤ w.heap.size) :
    Calls Try.prog 111 #[.pointer (some ⟨g, 0, none⟩), .int .i64 p, .agg ⟨cs⟩] w fun e w' => ∃ vt', e = .returned (.tuple #[]) ∧ Run 149 #[px, pf, vl, vr, vt', .bool (come r p s).bad] d g lo w0 w' (come r p s) vl vr vt' ∧ (∀ s' cs', SOk g lo w vt s' cs' → SOk g lo w' vt' s' cs') ∧ (∀ q o, BOk g vl vr vt w q o → BOk g vl vr vt' w' q o) := by
  obtain ⟨v, rfl, hrs⟩ := kStateI_openM hs
  obtain ⟨AS, yS, rfl⟩ := Kd.R_slice hrs
  obtain ⟨AL, yL, rfl⟩ := Kd.R_slice hr.L
  obtain ⟨AR, yR, rfl⟩ := Kd.R_slice hr.B
  obtain ⟨AT, yT, rfl, hyT⟩ := Kd.Q_slice hr.Q
  clear hrs
  obtain ⟨nq, hnq⟩ : ∃ nq : Nat, (r.queue.drop d).length = nq := ⟨_, rfl⟩
  rw [hnq] at hr hs hyT ⊢
  have hu := Try.underlying31; have hu1 := Try.underlying48; have hu2 := Try.underlying49; have hu3 := Try.underlying26; have hu4 := Try.underlying149
  have HR := Aside0.mk hr; have HS := Aside0.mk hs; have HLE := Aside0.mk hle
  clear hr hs hle
  have M0 := Aside0.mk ((Mem.start w).allocAt rfl #[.int .i64 s.acc, .slice AS s.regs.length yS] 31)
  have B0 := Aside0.mk (below_alloc (Below.refl w.heap.size w) (.cells #[.int .i64 s.acc, .slice AS s.regs.length yS] 31))
  have R0 := Aside0.mk (HR.out.step B0.out); have S0 := Aside0.mk (HS.out.step B0.out)
  have q2 := (blk_cell R0.out.box 2).trans rfl
  have q3 := (blk_cell R0.out.box 3).trans rfl
  have q4 := (blk_cell R0.out.box 4).trans rfl
  have q5 := (blk_cell R0.out.box 5).trans rfl
  have f3 := blk_frozen R0.out.box 5
  have gn : (g : Nat) ≠ w.heap.size := Nat.ne_of_lt (blk_lt HR.out.box)
  go_enter Try.func111, Try.ntmps111
  by_cases hlt : p < r.list.length
  rotate_left
  · have hge : decide ((r.list.length : Int) ≤ (p : Int)) = true := by simp; omega
    have hce : come r p s = { r with bad := true } := by unfold come; rw [if_pos (by omega)]
    have HCE := Aside0.mk hce; clear hce
    go_wp2
    ((try simp only [Exit.inBlock, Exit.then]); refine bodyPost_ret (results_none rfl _ _ _) rfl ?_)
    refine ⟨.slice AT nq yT, rfl, ?_, fun s' cs' h => (h.step B0.out).set _ _, fun q o h => (h.step B0.out).set _ _⟩
    rw [HCE.out]
    exact (R0.out.set 5 (.bool true) rfl).as rfl rfl rfl
  have hge : decide ((r.list.length : Int) ≤ (p : Int)) = false := by simp; omega
  have hp0 : (0 : Int) ≤ (p : Int) := by omega
  have hpl : (p : Int) < (r.list.length : Int) := by omega
  have hpr : (p : Int) < (r.reached.length : Int) := by omega
  clear hlr
  obtain ⟨gl, cl, hgl, _, _, _, _⟩ := Kd.R_form HR.out.L (by omega)
  injection hgl with h1 h2 h3; subst h1; subst h3; clear h2
  obtain ⟨gr, cr, hgr, _, _, _, _⟩ := Kd.R_form HR.out.B (by omega)
  injection hgr with h1 h2 h3; subst h1; subst h3; clear h2
  obtain ⟨rb, hrb⟩ : ∃ rb, rb = el false r.reached p := ⟨_, rfl⟩
  have M1 := M0; have B1 := B0; have R1 := R0; have S1 := S0
  have z0 := M0.out.box (.head _); have z1 := M1.out.box (.head _)
  have x0 : (w.alloc (.cells #[.int .i64 s.acc, .slice AS s.regs.length yS] 31)).cell? ⟨gr, p, none⟩ = some (.bool rb) := by have h := (Kd.R_celln false R1.out.B (p : Int) (by omega) (by omega)).1; rw [Int.toNat_natCast] at h; rw [hrb]; exact h
  rcases Bool.eq_false_or_eq_true rb with hb1 | hb1
  · subst hb1
    obtain ⟨c, hcl, hcM, hcc, hcf⟩ := Kd.R_elem HR.out.L zState (p : Int) (by omega) (by omega)
    obtain ⟨a, ha⟩ : ∃ a, a = el zState r.list p := ⟨_, rfl⟩
    have hcM2 := hcM
    rw [Int.toNat_natCast, show r.list.getD p zState = a from ha.symm] at hcM2
    obtain ⟨va, rfl, hra⟩ := kStateI_openM hcM2
    obtain ⟨AA, yA, rfl⟩ := Kd.R_slice hra
    have hla : a.regs.length ≤ 1048576 := by rw [ha]; exact HLE.out p hlt hrb.symm
    have KA := Aside0.mk (kStateI.K_of_M hcM2)
    have E0 := Aside0.mk (show w.cell? ⟨gl, p * 2, none⟩ = some (.int .i64 a.acc) from hcc 0 _ rfl); have E1 := Aside0.mk (show w.cell? ⟨gl, p * 2 + 1, none⟩ = some (.slice AA a.regs.length yA) from hcc 1 _ rfl)
    clear hcl hcM hcc hcf hcM2 hra
    obtain ⟨J, hJ⟩ : ∃ J, J = joinS a s := ⟨_, rfl⟩
    have hlj : J.regs.length ≤ 1048576 := by rw [hJ]; show (joined a.regs s.regs).length ≤ 1048576; rw [joined_length]; omega
    have HRB := Aside0.mk hrb; have HA := Aside0.mk ha; have HJ := Aside0.mk hJ; clear hrb ha hJ
    go_upto_region 4 with fail
    clear z0 z1 q2 q3 q4 q5 f3 x0
    generalize (w.alloc (.cells #[.int .i64 s.acc, .slice AS s.regs.length yS] 31)) = wq at M1 ⊢
    obtain ⟨L, HL, ML⟩ := Mem.hide M1
    have ES := Aside0.mk (show Hold.box w.heap.size #[.int .i64 s.acc, .slice AS s.regs.length yS] 31 ∈ L from HL.out ▸ (.head _))
    have MD := Aside0.mk ML.out.drew
    clear M1 ML
    have EW := Aside0.mk (show Hold.box w.heap.size #[.int .i64 s.acc, .slice AS s.regs.length yS] 31 ∈ L from HL.out ▸ (.head _))
    refine sz 10 (fun W => W.cell? ⟨g, 2, none⟩ = some (.slice (some ⟨gl, 0, none⟩) r.list.length yL) ∧ W.cell? ⟨gl, p * 2, none⟩ = some (.int .i64 a.acc) ∧ W.cell? ⟨gl, p * 2 + 1, none⟩ = some (.slice AA a.regs.length yA) ∧ W.cell? ⟨w.heap.size, 0, none⟩ = some (.int .i64 s.acc) ∧ W.cell? ⟨w.heap.size, 1, none⟩ = some (.slice AS s.regs.length yS)) [9] flowC.tab4 flowC.bits4 ⟨(blk_cell (HR.out.step MD.out.below).box 2).trans rfl, pw_cell_below MD.out.below E0.out, pw_cell_below MD.out.below E1.out, (MD.out.box ES.out 0).trans rfl, (MD.out.box ES.out 1).trans rfl⟩ (fun HT_ HW_ hHeld => ?_)
    generalize wq.drew = wd at MD hHeld ⊢
    have HWD := Aside0.mk MD.out.below.size
    refine pz 0 23 ?_; refine pz 1 24 ?_; refine pz 2 25 ?_; refine pz 4 27 ?_; refine tz 3 26 ?_; refine pz 5 28 ?_; refine tz 6 29 ?_; refine tz 7 30 ?_
    refine ez 8 (some 31) (fun K hK => ?_)
    refine gz Try.func144 #[.agg #[.int .i64 a.acc, .slice AA a.regs.length yA], .agg #[.int .i64 s.acc, .slice AS s.regs.length yS]] ?_
    refine (implJoin a s _ _ _ (kStateI.K_below MD.out.below KA.out) (kStateI.K_below MD.out.below HS.out.K) hla hls).mono ?_; rintro e w5 ⟨ds, rfl, hm, hb⟩; rw [← HJ.out] at hm; obtain ⟨v5, rfl, hr5⟩ := kStateI_openM hm; obtain ⟨XJ, yJ, rfl⟩ := Kd.R_slice hr5; clear hr5
    have M5 := Aside0.mk (MD.out.push hb hm); have ES5 := Aside0.mk (List.Mem.tail (Hold.val kStateI wd.heap.size w5.heap.size J [.int .i64 J.acc, .slice XJ J.regs.length yJ]) ES.out); clear hm hb
    refine ⟨_, rfl, ?_⟩
    refine hK.out _ _ ⟨(blk_cell (HR.out.step M5.out.below).box 2).trans rfl, pw_cell_below M5.out.below E0.out, pw_cell_below M5.out.below E1.out, (M5.out.box ES5.out 0).trans rfl, (M5.out.box ES5.out 1).trans rfl⟩ (fun hHeld => ?_); clear hK K; refine kz (some 31) ?_
    refine lz 9 none (fun K hK => ?_)
    have b0 := M5.out.box (List.Mem.tail _ EW.out); have b1 := M5.out.free (List.Mem.tail _ EW.out)
    refine skip_ (w1 := ?_) (by rfl) rfl ?_ ?_
    rotate_left
    · go_simp
      rfl
    clear b0 b1
    refine hK.out _ _ ?_; clear hK K
    refine dz ?_
    have hl := HL.out; subst hl; clear HL ES ES5 EW MD hHeld
    have M6 := Aside0.mk (Mem.set (A := [_]) (Mem.set (A := [_]) M5.out 0 (.int .i64 J.acc) rfl) 1 (.slice XJ J.regs.length yJ) rfl)
    obtain ⟨W6, hW6⟩ : ∃ W6, W6 = (w5.setCell ⟨w.heap.size, 0, none⟩ (.int .i64 J.acc)).setCell ⟨w.heap.size, 1, none⟩ (.slice XJ J.regs.length yJ) := ⟨_, rfl⟩
    rw [← hW6] at M6
    try rw [← hW6]
    clear M5 hW6
    have HVJ := Aside0.mk (M6.out.val (.head _))
    have SJ := Aside0.mk (show SOk g lo W6 (.slice AT nq yT) J [.int .i64 J.acc, .slice XJ J.regs.length yJ] from kStateI.M_mono (fun k hk => ⟨fun e => by have h1 := hk.1; have h2 := HR.out.lt.1; have h3 := HWD.out; omega, fun e => by have h1 := hk.1; have h2 := HR.out.lt.2 k e.symm; have h3 := HWD.out; omega⟩) (kStateI.M_lower (Nat.le_trans hlow HWD.out) HVJ.out))
    by_cases hacc : J.acc = a.acc
    · have ht1 : (J.acc == a.acc) = true := by simpa using hacc
      by_cases hrg : J.regs = a.regs
      · have hja : J = a := by obtain ⟨_, _⟩ := J; obtain ⟨_, _⟩ := a; cases hacc; cases hrg; rfl
        have HDJ := Aside0.mk (decide_eq_true hrg); have HJA := Aside0.mk hja; clear hja hrg hacc
        go_upto_region 5 with fail
        obtain ⟨L, HL, ML⟩ := Mem.hide M6
        have EW := Aside0.mk (show Hold.box w.heap.size #[.int .i64 J.acc, .slice XJ J.regs.length yJ] 31 ∈ L from HL.out ▸ (.tail _ (.head _)))
        have MD := Aside0.mk ML.out.drew; have SD := Aside0.mk (SJ.out.step (below_drew1 (Below.refl _ _)))
        clear M6 ML HVJ SJ
        refine sz 24 (fun W => W.cell? ⟨g, 2, none⟩ = some (.slice (some ⟨gl, 0, none⟩) r.list.length yL) ∧ W.cell? ⟨gl, p * 2, none⟩ = some (.int .i64 a.acc) ∧ W.cell? ⟨gl, p * 2 + 1, none⟩ = some (.slice AA a.regs.length yA) ∧ W.cell? ⟨w.heap.size, 0, none⟩ = some (.int .i64 J.acc) ∧ W.cell? ⟨w.heap.size, 1, none⟩ = some (.slice XJ J.regs.length yJ)) [] flowC.tab5 flowC.bits5 ⟨(blk_cell (HR.out.step MD.out.below).box 2).trans rfl, pw_cell_below MD.out.below E0.out, pw_cell_below MD.out.below E1.out, (MD.out.box EW.out 0).trans rfl, (MD.out.box EW.out 1).trans rfl⟩ (fun HT_ HW_ hHeld => ?_)
        generalize W6.drew = wd6 at MD SD hHeld ⊢
        refine pz 0 32 ?_; refine pz 2 34 ?_; refine pz 3 35 ?_; refine pz 4 36 ?_; refine pz 6 38 ?_; refine tz 1 33 ?_; refine tz 5 37 ?_; refine pz 7 39 ?_; refine pz 8 40 ?_; refine tz 9 41 ?_; refine pz 10 42 ?_; refine pz 11 43 ?_; refine pz 12 44 ?_; refine pz 14 46 ?_; refine pz 15 47 ?_; refine pz 16 48 ?_; refine pz 18 50 ?_; refine tz 13 45 ?_; refine tz 17 49 ?_; refine pz 19 51 ?_; refine pz 20 52 ?_; refine tz 21 53 ?_
        refine ez 22 (some 54) (fun K hK => ?_)
        refine gz Try.func145 #[.slice XJ J.regs.length yJ, .slice AA a.regs.length yA] ?_
        obtain ⟨AJ1, cJ1, ej, hj1, hj2⟩ := kStateI_open SD.out.K
        cases ej
        obtain ⟨AJ2, cJ2, ea, ha1, ha2⟩ := kStateI_open (kStateI.K_below MD.out.below KA.out)
        cases ea
        have C := slices_Equal_int_int.calls 1048577 XJ yJ J.regs AA yA a.regs _ wd6 hj2 hj1 ha2 ha1 (equal_ok J.regs a.regs hlj (Nat.le_refl _))
        rw [HDJ.out] at C
        refine C.mono ?_; clear C; rintro e w7 ⟨rfl, ⟨⟨n7, rfl⟩⟩⟩
        have M7 := Aside0.mk (MD.out.draw n7); have S7 := Aside0.mk (SD.out.step (pw_below_drewN (Below.refl _ _) n7))
        refine ⟨_, rfl, ?_⟩
        refine hK.out _ _ ⟨(blk_cell (HR.out.step M7.out.below).box 2).trans rfl, pw_cell_below M7.out.below E0.out, pw_cell_below M7.out.below E1.out, (M7.out.box EW.out 0).trans rfl, (M7.out.box EW.out 1).trans rfl⟩ (fun hHeld => ?_); clear hK K; refine kz (some 54) ?_
        refine pz 23 55 ?_
        refine dz ?_
        have HCE := Aside0.mk (show come r p s = r by unfold come; rw [if_neg (by omega), ← HRB.out, if_pos rfl, ← HA.out, ← HJ.out, if_pos HJA.out])
        have hl := HL.out; subst hl; clear HL EW
        go_wp2
        first | go_end0 | ((try simp only [Exit.inBlock, Exit.then]); refine bodyPost_ret (results_none rfl _ _ _) rfl ?_)
        rw [HCE.out]
        first | exact ⟨_, rfl, HR.out.step M7.out.below, fun s' cs' h => h.step M7.out.below, fun q o h => h.step M7.out.below⟩ | exact ⟨rfl, _, HR.out.step M7.out.below, fun s' cs' h => h.step M7.out.below, fun q o h => h.step M7.out.below⟩
      · have hja : ¬ J = a := by intro e; exact hrg (by rw [e])
        have HDJ := Aside0.mk (decide_eq_false hrg); have HJA := Aside0.mk hja; clear hja hrg hacc
        go_upto_region 5 with fail
        obtain ⟨L, HL, ML⟩ := Mem.hide M6
        have EW := Aside0.mk (show Hold.box w.heap.size #[.int .i64 J.acc, .slice XJ J.regs.length yJ] 31 ∈ L from HL.out ▸ (.tail _ (.head _)))
        have MD := Aside0.mk ML.out.drew; have SD := Aside0.mk (SJ.out.step (below_drew1 (Below.refl _ _)))
        clear M6 ML HVJ SJ
        refine sz 24 (fun W => W.cell? ⟨g, 2, none⟩ = some (.slice (some ⟨gl, 0, none⟩) r.list.length yL) ∧ W.cell? ⟨gl, p * 2, none⟩ = some (.int .i64 a.acc) ∧ W.cell? ⟨gl, p * 2 + 1, none⟩ = some (.slice AA a.regs.length yA) ∧ W.cell? ⟨w.heap.size, 0, none⟩ = some (.int .i64 J.acc) ∧ W.cell? ⟨w.heap.size, 1, none⟩ = some (.slice XJ J.regs.length yJ)) [] flowC.tab5 flowC.bits5 ⟨(blk_cell (HR.out.step MD.out.below).box 2).trans rfl, pw_cell_below MD.out.below E0.out, pw_cell_below MD.out.below E1.out, (MD.out.box EW.out 0).trans rfl, (MD.out.box EW.out 1).trans rfl⟩ (fun HT_ HW_ hHeld => ?_)
        generalize W6.drew = wd6 at MD SD hHeld ⊢
        refine pz 0 32 ?_; refine pz 2 34 ?_; refine pz 3 35 ?_; refine pz 4 36 ?_; refine pz 6 38 ?_; refine tz 1 33 ?_; refine tz 5 37 ?_; refine pz 7 39 ?_; refine pz 8 40 ?_; refine tz 9 41 ?_; refine pz 10 42 ?_; refine pz 11 43 ?_; refine pz 12 44 ?_; refine pz 14 46 ?_; refine pz 15 47 ?_; refine pz 16 48 ?_; refine pz 18 50 ?_; refine tz 13 45 ?_; refine tz 17 49 ?_; refine pz 19 51 ?_; refine pz 20 52 ?_; refine tz 21 53 ?_
        refine ez 22 (some 54) (fun K hK => ?_)
        refine gz Try.func145 #[.slice XJ J.regs.length yJ, .slice AA a.regs.length yA] ?_
        obtain ⟨AJ1, cJ1, ej, hj1, hj2⟩ := kStateI_open SD.out.K
        cases ej
        obtain ⟨AJ2, cJ2, ea, ha1, ha2⟩ := kStateI_open (kStateI.K_below MD.out.below KA.out)
        cases ea
        have C := slices_Equal_int_int.calls 1048577 XJ yJ J.regs AA yA a.regs _ wd6 hj2 hj1 ha2 ha1 (equal_ok J.regs a.regs hlj (Nat.le_refl _))
        rw [HDJ.out] at C
        refine C.mono ?_; clear C; rintro e w7 ⟨rfl, ⟨⟨n7, rfl⟩⟩⟩
        have M7 := Aside0.mk (MD.out.draw n7); have S7 := Aside0.mk (SD.out.step (pw_below_drewN (Below.refl _ _) n7))
        refine ⟨_, rfl, ?_⟩
        refine hK.out _ _ ⟨(blk_cell (HR.out.step M7.out.below).box 2).trans rfl, pw_cell_below M7.out.below E0.out, pw_cell_below M7.out.below E1.out, (M7.out.box EW.out 0).trans rfl, (M7.out.box EW.out 1).trans rfl⟩ (fun hHeld => ?_); clear hK K; refine kz (some 54) ?_
        refine pz 23 55 ?_
        refine dz ?_
        have HCE := Aside0.mk (show come r p s = { r with list := r.list.set p J, reached := r.reached.set p true, queue := r.queue ++ [(p : Int)] } by unfold come; rw [if_neg (by omega), ← HRB.out, if_pos rfl, ← HA.out, ← HJ.out, if_neg HJA.out])
        have hl := HL.out; subst hl; clear HL EW
        generalize World.drewN wd6 n7 = wq7 at M7 S7 ⊢
        go_upto_region 6 with fail
        have BB := Aside0.mk M7.out.below; have RR := Aside0.mk (HR.out.step BB.out)
        obtain ⟨L, HL, ML⟩ := Mem.hide M7
        have EN := Aside0.mk (show Hold.box (w.heap.size) #[.int .i64 J.acc, .slice XJ J.regs.length yJ] 31 ∈ L from HL.out ▸ (.tail _ (.head _)))
        have MD := Aside0.mk ML.out.drew; have RD := Aside0.mk (RR.out.step (below_drew1 (Below.refl _ _))); have SD := Aside0.mk (S7.out.step (below_drew1 (Below.refl _ _))); have BD := Aside0.mk (below_drew1 BB.out)
        clear M7 RR BB S7 ML
        have lw := RD.out.lt
        refine sz 9 (fun W => W.cell? ⟨g, 2, none⟩ = some (.slice (some ⟨gl, 0, none⟩) r.list.length yL) ∧ W.cell? ⟨w.heap.size, 0, none⟩ = some (.int .i64 J.acc) ∧ W.cell? ⟨w.heap.size, 1, none⟩ = some (.slice XJ J.regs.length yJ)) [8] flowC.tab6 flowC.bits6 ⟨(blk_cell RD.out.box 2).trans rfl, (MD.out.box EN.out 0).trans rfl, (MD.out.box EN.out 1).trans rfl⟩ (fun HT_ HW_ hHeld => ?_)
        generalize wq7.drew = wd8 at MD RD SD BD lw hHeld ⊢
        refine pz 0 56 ?_; refine pz 1 57 ?_; refine pz 2 58 ?_; refine pz 4 60 ?_; refine tz 3 59 ?_; refine tz 5 61 ?_
        refine ez 6 (some 62) (fun K hK => ?_)
        refine gz Try.func102 #[.agg #[.int .i64 J.acc, .slice XJ J.regs.length yJ]] ?_
        refine (cCopy J _ _ SD.out.K (by omega)).mono ?_; rintro e w7 ⟨ds, rfl, hm, hb⟩; obtain ⟨v, rfl, hr7⟩ := kStateI_openM hm; obtain ⟨X7, y7, rfl⟩ := Kd.R_slice hr7; clear hr7
        have SN := Aside0.mk (SOk.new (g := g) (lo := lo) (vt := .slice AT nq yT) hm (Nat.le_of_lt (Nat.lt_of_le_of_lt (Kd.R_base RD.out.L gl (by simp [Value.ownBlock])) (Kd.R_lt RD.out.L gl (by simp [Value.ownBlock])))) lw.1 lw.2)
        have MC := Aside0.mk (MD.out.step hb); have RC := Aside0.mk (RD.out.step hb); have BC := Aside0.mk (below_step BD.out hb); clear hm hb
        obtain ⟨c, hcl, _, hcc, hcf⟩ := Kd.R_elem RC.out.L zState (p : Int) (by omega) (by omega)
        obtain ⟨c0, c1, rfl⟩ : ∃ c0 c1, c = [c0, c1] := by cases c with | nil => cases hcl | cons c0 c => cases c with | nil => cases hcl | cons c1 c => cases c with | nil => exact ⟨c0, c1, rfl⟩ | cons _ _ => cases hcl
        have k0 : w7.cell? ⟨gl, p * 2, none⟩ = some c0 := hcc 0 c0 rfl
        have k1 : w7.cell? ⟨gl, p * 2 + 1, none⟩ = some c1 := hcc 1 c1 rfl
        have k2 : w7.frozen? ⟨gl, p * 2, none⟩ = false := hcf 0
        have k3 : w7.frozen? ⟨gl, p * 2 + 1, none⟩ = false := hcf 1
        clear hcl hcc hcf
        refine ⟨_, rfl, ?_⟩
        refine hK.out _ _ ⟨(blk_cell RC.out.box 2).trans rfl, (MC.out.box EN.out 0).trans rfl, (MC.out.box EN.out 1).trans rfl⟩ (fun hHeld => ?_); clear hK K; refine kz (some 62) ?_
        refine pz 7 63 ?_
        refine lz 8 none (fun K hK => ?_)
        refine skip_ (w1 := ?_) (by rfl) rfl ?_ ?_
        rotate_left
        · go_simp
          rfl
        refine hK.out _ _ ?_; clear hK K
        refine dz ?_
        clear k0 k1 k2 k3
        have P1 := Run.putL RC.out (by decide) p hlt SN.out
        obtain ⟨W2, hW2⟩ : ∃ W2, W2 = (w7.setCell ⟨gl, p * 2, none⟩ (.int .i64 J.acc)).setCell ⟨gl, p * 2 + 1, none⟩ (.slice X7 J.regs.length y7) := ⟨_, rfl⟩
        rw [← hW2]
        have RP2 := Aside0.mk (show Run 149 #[px, pf, .slice (some ⟨gl, 0, none⟩) r.list.length yL, .slice (some ⟨gr, 0, none⟩) r.reached.length yR, .slice AT nq yT, .bool r.bad] d g lo w0 W2 { r with list := r.list.set p J } (.slice (some ⟨gl, 0, none⟩) r.list.length yL) (.slice (some ⟨gr, 0, none⟩) r.reached.length yR) (.slice AT nq yT) from hW2 ▸ P1.1)
        have SS2 := Aside0.mk (show ∀ s' cs', SOk g lo w (.slice AT nq yT) s' cs' → SOk g lo W2 (.slice AT nq yT) s' cs' from fun s' cs' h => hW2 ▸ P1.2.1 s' cs' (h.step BC.out))
        have KB2 := Aside0.mk (show ∀ q o, BOk g (.slice (some ⟨gl, 0, none⟩) r.list.length yL) (.slice (some ⟨gr, 0, none⟩) r.reached.length yR) (.slice AT nq yT) w q o → BOk g (.slice (some ⟨gl, 0, none⟩) r.list.length yL) (.slice (some ⟨gr, 0, none⟩) r.reached.length yR) (.slice AT nq yT) W2 q o from fun q o h => hW2 ▸ P1.2.2 q o (h.step BC.out))
        clear P1 hW2
        have v2 := (blk_cell RP2.out.box 2).trans rfl
        have v3 := (blk_cell RP2.out.box 3).trans rfl
        have v4 := (blk_cell RP2.out.box 4).trans rfl
        have v5 := (blk_cell RP2.out.box 5).trans rfl
        have x1 : W2.cell? ⟨gr, p, none⟩ = some (.bool _) := (Kd.R_celln false RP2.out.B (p : Int) (by omega) (by omega)).1; have x2 : W2.frozen? ⟨gr, p, none⟩ = false := (Kd.R_celln false RP2.out.B (p : Int) (by omega) (by omega)).2
        have P2 := Run.putB RP2.out p (by show p < r.reached.length; omega)
        go_upto_region 8 with fail
        clear x1 x2 v2 v3 v4 v5
        generalize W2.setCell ⟨gr, p, none⟩ (.bool true) = W3 at P2 ⊢
        have RP3 := Aside0.mk P2.1; have SS3 := Aside0.mk (fun s' cs' h => P2.2.1 s' cs' (SS2.out s' cs' h)); have KB3 := Aside0.mk (fun q o h => P2.2.2 q o (KB2.out q o h)); clear P2 RP2 SS2 KB2
        have v2 := (blk_cell RP3.out.box 2).trans rfl
        have v3 := (blk_cell RP3.out.box 3).trans rfl
        have v4 := (blk_cell RP3.out.box 4).trans rfl
        have v5 := (blk_cell RP3.out.box 5).trans rfl
        have hbl : w0.heap.size ≤ lo := RP3.out.hlo
        go_wp2_with (((with_reducible refine gate_builtin (b := .append) (xs := #[.tmp 74, .tmp 76]) rfl ?_); at_builtin; refine Aside0.out ?_))
        refine ⟨?_⟩
        clear v2 v3 v4 v5
        have hlt3 := RP3.out.lt
        refine Kd.Q_append (Kd.int .i64) (w0 := W3) lo rfl (.tmp 74) (.tmp 76) 26 3 (.int .i64 0) 8 rfl Try.underlying26 info3 rfl (by decide) (by decide) (.slice AT nq yT) (r.queue.drop d) (p : Int) [.int .i64 (p : Int)] (fun b => b ≠ g) (fun _ => False) ?aV ?aX rfl (fun _ h => h.elim) (fun k hk e => by have := hlt3.1; omega) RP3.out.Q (Below.refl _ _) (Nat.le_of_lt (Nat.lt_of_le_of_lt (Kd.R_base RP3.out.L gl (by simp [Value.ownBlock])) (Kd.R_lt RP3.out.L gl (by simp [Value.ownBlock])))) (by rw [List.length_drop]; omega) ?_
        case aV => first | rfl | (go_simp; done) | (go_simp; rfl)
        case aX => first | rfl | (go_simp; done) | (go_simp; rfl)
        intro v9 w9 hq9 hb9 hg9 hat9
        obtain ⟨A9, y9, hv9, _⟩ := Kd.Q_slice hq9
        obtain ⟨n9, hn9⟩ : ∃ n9 : Nat, (r.queue.drop d ++ [(p : Int)]).length = n9 := ⟨_, rfl⟩
        rw [hn9] at hv9; subst hv9
        have P4 := RP3.out.app (p : Int) hd (by decide) hq9 (RP3.out.below.trans ⟨hb9.os, hb9.tape, hb9.output, hb9.size, fun i hi => hb9.block i (Nat.lt_of_lt_of_le hi hbl)⟩) hg9 hat9
        have RP4 := Aside0.mk P4.1; have SS4 := Aside0.mk (fun s' cs' h => P4.2.1 s' cs' (SS3.out s' cs' h)); have KB4 := Aside0.mk (fun q o h => P4.2.2 q o (KB3.out q o h)); clear P4 RP3 SS3 KB3 hq9 hb9 hg9 hat9 hlt3
        have v2 := (blk_cell RP4.out.box 4).trans rfl; have v3 := blk_frozen RP4.out.box 4
        go_wp2
        first | go_end0 | ((try simp only [Exit.inBlock, Exit.then]); refine bodyPost_ret (results_none rfl _ _ _) rfl ?_)
        have RF : Run 149 #[px, pf, (.slice (some ⟨gl, 0, none⟩) r.list.length yL), (.slice (some ⟨gr, 0, none⟩) r.reached.length yR), .slice A9 n9 y9, .bool r.bad] d g lo w0 (w9.setCell ⟨g, 4, none⟩ (.slice A9 n9 y9)) (come r p s) (.slice (some ⟨gl, 0, none⟩) r.list.length yL) (.slice (some ⟨gr, 0, none⟩) r.reached.length yR) (.slice A9 n9 y9) := (RP4.out.set 4 (.slice A9 n9 y9) rfl).as (by rw [HCE.out]) (by rw [HCE.out]) (by rw [HCE.out])
        have hbd : (come r p s).bad = r.bad := by rw [HCE.out]
        rw [hbd]
        first | exact ⟨_, rfl, RF, fun s' cs' h => (SS4.out s' cs' h).set _ _, fun q o h => (KB4.out q o h).set _ _⟩ | exact ⟨rfl, _, RF, fun s' cs' h => (SS4.out s' cs' h).set _ _, fun q o h => (KB4.out q o h).set _ _⟩
    · have ht1 : (J.acc == a.acc) = false := by simpa using hacc
      have HJA := Aside0.mk (show ¬ J = a from fun e => hacc (by rw [e])); clear hacc
      go_upto_region 5 with fail
      obtain ⟨L, HL, ML⟩ := Mem.hide M6
      have EW := Aside0.mk (show Hold.box w.heap.size #[.int .i64 J.acc, .slice XJ J.regs.length yJ] 31 ∈ L from HL.out ▸ (.tail _ (.head _)))
      have MD := Aside0.mk ML.out.drew; have SD := Aside0.mk (SJ.out.step (below_drew1 (Below.refl _ _)))
      clear M6 ML HVJ SJ
      refine sz 24 (fun W => W.cell? ⟨g, 2, none⟩ = some (.slice (some ⟨gl, 0, none⟩) r.list.length yL) ∧ W.cell? ⟨gl, p * 2, none⟩ = some (.int .i64 a.acc) ∧ W.cell? ⟨gl, p * 2 + 1, none⟩ = some (.slice AA a.regs.length yA) ∧ W.cell? ⟨w.heap.size, 0, none⟩ = some (.int .i64 J.acc) ∧ W.cell? ⟨w.heap.size, 1, none⟩ = some (.slice XJ J.regs.length yJ)) [] flowC.tab5 flowC.bits5 ⟨(blk_cell (HR.out.step MD.out.below).box 2).trans rfl, pw_cell_below MD.out.below E0.out, pw_cell_below MD.out.below E1.out, (MD.out.box EW.out 0).trans rfl, (MD.out.box EW.out 1).trans rfl⟩ (fun HT_ HW_ hHeld => ?_)
      generalize W6.drew = wd6 at MD SD hHeld ⊢
      refine pz 0 32 ?_; refine pz 2 34 ?_; refine pz 3 35 ?_; refine pz 4 36 ?_; refine pz 6 38 ?_; refine tz 1 33 ?_; refine tz 5 37 ?_; refine pz 7 39 ?_; refine pz 8 40 ?_; refine tz 9 41 ?_; refine pz 10 42 ?_; refine pz 11 43 ?_; refine oz 12 44 ?_; refine oz 13 45 ?_; refine oz 14 46 ?_; refine oz 15 47 ?_; refine oz 16 48 ?_; refine oz 17 49 ?_; refine oz 18 50 ?_; refine oz 19 51 ?_; refine oz 20 52 ?_; refine oz 21 53 ?_; refine oz 22 54 ?_; refine pz 23 55 ?_
      refine dz ?_
      have HCE := Aside0.mk (show come r p s = { r with list := r.list.set p J, reached := r.reached.set p true, queue := r.queue ++ [(p : Int)] } by unfold come; rw [if_neg (by omega), ← HRB.out, if_pos rfl, ← HA.out, ← HJ.out, if_neg HJA.out])
      have hl := HL.out; subst hl; clear HL EW
      have M7 := MD; have S7 := SD; clear MD SD
      go_upto_region 6 with fail
      have BB := Aside0.mk M7.out.below; have RR := Aside0.mk (HR.out.step BB.out)
      obtain ⟨L, HL, ML⟩ := Mem.hide M7
      have EN := Aside0.mk (show Hold.box (w.heap.size) #[.int .i64 J.acc, .slice XJ J.regs.length yJ] 31 ∈ L from HL.out ▸ (.tail _ (.head _)))
      have MD := Aside0.mk ML.out.drew; have RD := Aside0.mk (RR.out.step (below_drew1 (Below.refl _ _))); have SD := Aside0.mk (S7.out.step (below_drew1 (Below.refl _ _))); have BD := Aside0.mk (below_drew1 BB.out)
      clear M7 RR BB S7 ML
      have lw := RD.out.lt
      refine sz 9 (fun W => W.cell? ⟨g, 2, none⟩ = some (.slice (some ⟨gl, 0, none⟩) r.list.length yL) ∧ W.cell? ⟨w.heap.size, 0, none⟩ = some (.int .i64 J.acc) ∧ W.cell? ⟨w.heap.size, 1, none⟩ = some (.slice XJ J.regs.length yJ)) [8] flowC.tab6 flowC.bits6 ⟨(blk_cell RD.out.box 2).trans rfl, (MD.out.box EN.out 0).trans rfl, (MD.out.box EN.out 1).trans rfl⟩ (fun HT_ HW_ hHeld => ?_)
      generalize wd6.drew = wd8 at MD RD SD BD lw hHeld ⊢
      refine pz 0 56 ?_; refine pz 1 57 ?_; refine pz 2 58 ?_; refine pz 4 60 ?_; refine tz 3 59 ?_; refine tz 5 61 ?_
      refine ez 6 (some 62) (fun K hK => ?_)
      refine gz Try.func102 #[.agg #[.int .i64 J.acc, .slice XJ J.regs.length yJ]] ?_
      refine (cCopy J _ _ SD.out.K (by omega)).mono ?_; rintro e w7 ⟨ds, rfl, hm, hb⟩; obtain ⟨v, rfl, hr7⟩ := kStateI_openM hm; obtain ⟨X7, y7, rfl⟩ := Kd.R_slice hr7; clear hr7
      have SN := Aside0.mk (SOk.new (g := g) (lo := lo) (vt := .slice AT nq yT) hm (Nat.le_of_lt (Nat.lt_of_le_of_lt (Kd.R_base RD.out.L gl (by simp [Value.ownBlock])) (Kd.R_lt RD.out.L gl (by simp [Value.ownBlock])))) lw.1 lw.2)
      have MC := Aside0.mk (MD.out.step hb); have RC := Aside0.mk (RD.out.step hb); have BC := Aside0.mk (below_step BD.out hb); clear hm hb
      obtain ⟨c, hcl, _, hcc, hcf⟩ := Kd.R_elem RC.out.L zState (p : Int) (by omega) (by omega)
      obtain ⟨c0, c1, rfl⟩ : ∃ c0 c1, c = [c0, c1] := by cases c with | nil => cases hcl | cons c0 c => cases c with | nil => cases hcl | cons c1 c => cases c with | nil => exact ⟨c0, c1, rfl⟩ | cons _ _ => cases hcl
      have k0 : w7.cell? ⟨gl, p * 2, none⟩ = some c0 := hcc 0 c0 rfl
      have k1 : w7.cell? ⟨gl, p * 2 + 1, none⟩ = some c1 := hcc 1 c1 rfl
      have k2 : w7.frozen? ⟨gl, p * 2, none⟩ = false := hcf 0
      have k3 : w7.frozen? ⟨gl, p * 2 + 1, none⟩ = false := hcf 1
      clear hcl hcc hcf
      refine ⟨_, rfl, ?_⟩
      refine hK.out _ _ ⟨(blk_cell RC.out.box 2).trans rfl, (MC.out.box EN.out 0).trans rfl, (MC.out.box EN.out 1).trans rfl⟩ (fun hHeld => ?_); clear hK K; refine kz (some 62) ?_
      refine pz 7 63 ?_
      refine lz 8 none (fun K hK => ?_)
      refine skip_ (w1 := ?_) (by rfl) rfl ?_ ?_
      rotate_left
      · go_simp
        rfl
      refine hK.out _ _ ?_; clear hK K
      refine dz ?_
      clear k0 k1 k2 k3
      have P1 := Run.putL RC.out (by decide) p hlt SN.out
      obtain ⟨W2, hW2⟩ : ∃ W2, W2 = (w7.setCell ⟨gl, p * 2, none⟩ (.int .i64 J.acc)).setCell ⟨gl, p * 2 + 1, none⟩ (.slice X7 J.regs.length y7) := ⟨_, rfl⟩
      rw [← hW2]
      have RP2 := Aside0.mk (show Run 149 #[px, pf, .slice (some ⟨gl, 0, none⟩) r.list.length yL, .slice (some ⟨gr, 0, none⟩) r.reached.length yR, .slice AT nq yT, .bool r.bad] d g lo w0 W2 { r with list := r.list.set p J } (.slice (some ⟨gl, 0, none⟩) r.list.length yL) (.slice (some ⟨gr, 0, none⟩) r.reached.length yR) (.slice AT nq yT) from hW2 ▸ P1.1)
      have SS2 := Aside0.mk (show ∀ s' cs', SOk g lo w (.slice AT nq yT) s' cs' → SOk g lo W2 (.slice AT nq yT) s' cs' from fun s' cs' h => hW2 ▸ P1.2.1 s' cs' (h.step BC.out))
      have KB2 := Aside0.mk (show ∀ q o, BOk g (.slice (some ⟨gl, 0, none⟩) r.list.length yL) (.slice (some ⟨gr, 0, none⟩) r.reached.length yR) (.slice AT nq yT) w q o → BOk g (.slice (some ⟨gl, 0, none⟩) r.list.length yL) (.slice (some ⟨gr, 0, none⟩) r.reached.length yR) (.slice AT nq yT) W2 q o from fun q o h => hW2 ▸ P1.2.2 q o (h.step BC.out))
      clear P1 hW2
      have v2 := (blk_cell RP2.out.box 2).trans rfl
      have v3 := (blk_cell RP2.out.box 3).trans rfl
      have v4 := (blk_cell RP2.out.box 4).trans rfl
      have v5 := (blk_cell RP2.out.box 5).trans rfl
      have x1 : W2.cell? ⟨gr, p, none⟩ = some (.bool _) := (Kd.R_celln false RP2.out.B (p : Int) (by omega) (by omega)).1; have x2 : W2.frozen? ⟨gr, p, none⟩ = false := (Kd.R_celln false RP2.out.B (p : Int) (by omega) (by omega)).2
      have P2 := Run.putB RP2.out p (by show p < r.reached.length; omega)
      go_upto_region 8 with fail
      clear x1 x2 v2 v3 v4 v5
      generalize W2.setCell ⟨gr, p, none⟩ (.bool true) = W3 at P2 ⊢
      have RP3 := Aside0.mk P2.1; have SS3 := Aside0.mk (fun s' cs' h => P2.2.1 s' cs' (SS2.out s' cs' h)); have KB3 := Aside0.mk (fun q o h => P2.2.2 q o (KB2.out q o h)); clear P2 RP2 SS2 KB2
      have v2 := (blk_cell RP3.out.box 2).trans rfl
      have v3 := (blk_cell RP3.out.box 3).trans rfl
      have v4 := (blk_cell RP3.out.box 4).trans rfl
      have v5 := (blk_cell RP3.out.box 5).trans rfl
      have hbl : w0.heap.size ≤ lo := RP3.out.hlo
      go_wp2_with (((with_reducible refine gate_builtin (b := .append) (xs := #[.tmp 74, .tmp 76]) rfl ?_); at_builtin; refine Aside0.out ?_))
      refine ⟨?_⟩
      clear v2 v3 v4 v5
      have hlt3 := RP3.out.lt
      refine Kd.Q_append (Kd.int .i64) (w0 := W3) lo rfl (.tmp 74) (.tmp 76) 26 3 (.int .i64 0) 8 rfl Try.underlying26 info3 rfl (by decide) (by decide) (.slice AT nq yT) (r.queue.drop d) (p : Int) [.int .i64 (p : Int)] (fun b => b ≠ g) (fun _ => False) ?aV ?aX rfl (fun _ h => h.elim) (fun k hk e => by have := hlt3.1; omega) RP3.out.Q (Below.refl _ _) (Nat.le_of_lt (Nat.lt_of_le_of_lt (Kd.R_base RP3.out.L gl (by simp [Value.ownBlock])) (Kd.R_lt RP3.out.L gl (by simp [Value.ownBlock])))) (by rw [List.length_drop]; omega) ?_
      case aV => first | rfl | (go_simp; done) | (go_simp; rfl)
      case aX => first | rfl | (go_simp; done) | (go_simp; rfl)
      intro v9 w9 hq9 hb9 hg9 hat9
      obtain ⟨A9, y9, hv9, _⟩ := Kd.Q_slice hq9
      obtain ⟨n9, hn9⟩ : ∃ n9 : Nat, (r.queue.drop d ++ [(p : Int)]).length = n9 := ⟨_, rfl⟩
      rw [hn9] at hv9; subst hv9
      have P4 := RP3.out.app (p : Int) hd (by decide) hq9 (RP3.out.below.trans ⟨hb9.os, hb9.tape, hb9.output, hb9.size, fun i hi => hb9.block i (Nat.lt_of_lt_of_le hi hbl)⟩) hg9 hat9
      have RP4 := Aside0.mk P4.1; have SS4 := Aside0.mk (fun s' cs' h => P4.2.1 s' cs' (SS3.out s' cs' h)); have KB4 := Aside0.mk (fun q o h => P4.2.2 q o (KB3.out q o h)); clear P4 RP3 SS3 KB3 hq9 hb9 hg9 hat9 hlt3
      have v2 := (blk_cell RP4.out.box 4).trans rfl; have v3 := blk_frozen RP4.out.box 4
      go_wp2
      first | go_end0 | ((try simp only [Exit.inBlock, Exit.then]); refine bodyPost_ret (results_none rfl _ _ _) rfl ?_)
      have RF : Run 149 #[px, pf, (.slice (some ⟨gl, 0, none⟩) r.list.length yL), (.slice (some ⟨gr, 0, none⟩) r.reached.length yR), .slice A9 n9 y9, .bool r.bad] d g lo w0 (w9.setCell ⟨g, 4, none⟩ (.slice A9 n9 y9)) (come r p s) (.slice (some ⟨gl, 0, none⟩) r.list.length yL) (.slice (some ⟨gr, 0, none⟩) r.reached.length yR) (.slice A9 n9 y9) := (RP4.out.set 4 (.slice A9 n9 y9) rfl).as (by rw [HCE.out]) (by rw [HCE.out]) (by rw [HCE.out])
      have hbd : (come r p s).bad = r.bad := by rw [HCE.out]
      rw [hbd]
      first | exact ⟨_, rfl, RF, fun s' cs' h => (SS4.out s' cs' h).set _ _, fun q o h => (KB4.out q o h).set _ _⟩ | exact ⟨rfl, _, RF, fun s' cs' h => (SS4.out s' cs' h).set _ _, fun q o h => (KB4.out q o h).set _ _⟩
  · subst hb1
    have HCE := Aside0.mk (show come r p s = { r with list := r.list.set p s, reached := r.reached.set p true, queue := r.queue ++ [(p : Int)] } by unfold come; rw [if_neg (by omega), ← hrb]; rfl)
    clear hrb
    go_upto_region 6 with fail
    clear z0 z1 q2 q3 q4 q5 f3 x0
    generalize (w.alloc (.cells #[.int .i64 s.acc, .slice AS s.regs.length yS] 31)) = wq at M1 S1 ⊢
    have BB := Aside0.mk M1.out.below; have RR := Aside0.mk (HR.out.step BB.out)
    obtain ⟨L, HL, ML⟩ := Mem.hide M1
    have EN := Aside0.mk (show Hold.box (w.heap.size) #[.int .i64 s.acc, .slice AS s.regs.length yS] 31 ∈ L from HL.out ▸ (.head _))
    have MD := Aside0.mk ML.out.drew; have RD := Aside0.mk (RR.out.step (below_drew1 (Below.refl _ _))); have SD := Aside0.mk (S1.out.step (below_drew1 (Below.refl _ _))); have BD := Aside0.mk (below_drew1 BB.out)
    clear M1 RR BB S1 ML
    have lw := RD.out.lt
    refine sz 9 (fun W => W.cell? ⟨g, 2, none⟩ = some (.slice (some ⟨gl, 0, none⟩) r.list.length yL) ∧ W.cell? ⟨w.heap.size, 0, none⟩ = some (.int .i64 s.acc) ∧ W.cell? ⟨w.heap.size, 1, none⟩ = some (.slice AS s.regs.length yS)) [8] flowC.tab6 flowC.bits6 ⟨(blk_cell RD.out.box 2).trans rfl, (MD.out.box EN.out 0).trans rfl, (MD.out.box EN.out 1).trans rfl⟩ (fun HT_ HW_ hHeld => ?_)
    generalize wq.drew = wd8 at MD RD SD BD lw hHeld ⊢
    refine pz 0 56 ?_; refine pz 1 57 ?_; refine pz 2 58 ?_; refine pz 4 60 ?_; refine tz 3 59 ?_; refine tz 5 61 ?_
    refine ez 6 (some 62) (fun K hK => ?_)
    refine gz Try.func102 #[.agg #[.int .i64 s.acc, .slice AS s.regs.length yS]] ?_
    refine (cCopy s _ _ SD.out.K (by omega)).mono ?_; rintro e w7 ⟨ds, rfl, hm, hb⟩; obtain ⟨v, rfl, hr7⟩ := kStateI_openM hm; obtain ⟨X7, y7, rfl⟩ := Kd.R_slice hr7; clear hr7
    have SN := Aside0.mk (SOk.new (g := g) (lo := lo) (vt := .slice AT nq yT) hm (Nat.le_of_lt (Nat.lt_of_le_of_lt (Kd.R_base RD.out.L gl (by simp [Value.ownBlock])) (Kd.R_lt RD.out.L gl (by simp [Value.ownBlock])))) lw.1 lw.2)
    have MC := Aside0.mk (MD.out.step hb); have RC := Aside0.mk (RD.out.step hb); have BC := Aside0.mk (below_step BD.out hb); clear hm hb
    obtain ⟨c, hcl, _, hcc, hcf⟩ := Kd.R_elem RC.out.L zState (p : Int) (by omega) (by omega)
    obtain ⟨c0, c1, rfl⟩ : ∃ c0 c1, c = [c0, c1] := by cases c with | nil => cases hcl | cons c0 c => cases c with | nil => cases hcl | cons c1 c => cases c with | nil => exact ⟨c0, c1, rfl⟩ | cons _ _ => cases hcl
    have k0 : w7.cell? ⟨gl, p * 2, none⟩ = some c0 := hcc 0 c0 rfl
    have k1 : w7.cell? ⟨gl, p * 2 + 1, none⟩ = some c1 := hcc 1 c1 rfl
    have k2 : w7.frozen? ⟨gl, p * 2, none⟩ = false := hcf 0
    have k3 : w7.frozen? ⟨gl, p * 2 + 1, none⟩ = false := hcf 1
    clear hcl hcc hcf
    refine ⟨_, rfl, ?_⟩
    refine hK.out _ _ ⟨(blk_cell RC.out.box 2).trans rfl, (MC.out.box EN.out 0).trans rfl, (MC.out.box EN.out 1).trans rfl⟩ (fun hHeld => ?_); clear hK K; refine kz (some 62) ?_
    refine pz 7 63 ?_
    refine lz 8 none (fun K hK => ?_)
    refine skip_ (w1 := ?_) (by rfl) rfl ?_ ?_
    rotate_left
    · go_simp
      rfl
    refine hK.out _ _ ?_; clear hK K
    refine dz ?_
    clear k0 k1 k2 k3
    have P1 := Run.putL RC.out (by decide) p hlt SN.out
    obtain ⟨W2, hW2⟩ : ∃ W2, W2 = (w7.setCell ⟨gl, p * 2, none⟩ (.int .i64 s.acc)).setCell ⟨gl, p * 2 + 1, none⟩ (.slice X7 s.regs.length y7) := ⟨_, rfl⟩
    rw [← hW2]
    have RP2 := Aside0.mk (show Run 149 #[px, pf, .slice (some ⟨gl, 0, none⟩) r.list.length yL, .slice (some ⟨gr, 0, none⟩) r.reached.length yR, .slice AT nq yT, .bool r.bad] d g lo w0 W2 { r with list := r.list.set p s } (.slice (some ⟨gl, 0, none⟩) r.list.length yL) (.slice (some ⟨gr, 0, none⟩) r.reached.length yR) (.slice AT nq yT) from hW2 ▸ P1.1)
    have SS2 := Aside0.mk (show ∀ s' cs', SOk g lo w (.slice AT nq yT) s' cs' → SOk g lo W2 (.slice AT nq yT) s' cs' from fun s' cs' h => hW2 ▸ P1.2.1 s' cs' (h.step BC.out))
    have KB2 := Aside0.mk (show ∀ q o, BOk g (.slice (some ⟨gl, 0, none⟩) r.list.length yL) (.slice (some ⟨gr, 0, none⟩) r.reached.length yR) (.slice AT nq yT) w q o → BOk g (.slice (some ⟨gl, 0, none⟩) r.list.length yL) (.slice (some ⟨gr, 0, none⟩) r.reached.length yR) (.slice AT nq yT) W2 q o from fun q o h => hW2 ▸ P1.2.2 q o (h.step BC.out))
    clear P1 hW2
    have v2 := (blk_cell RP2.out.box 2).trans rfl
    have v3 := (blk_cell RP2.out.box 3).trans rfl
    have v4 := (blk_cell RP2.out.box 4).trans rfl
    have v5 := (blk_cell RP2.out.box 5).trans rfl
    have x1 : W2.cell? ⟨gr, p, none⟩ = some (.bool _) := (Kd.R_celln false RP2.out.B (p : Int) (by omega) (by omega)).1; have x2 : W2.frozen? ⟨gr, p, none⟩ = false := (Kd.R_celln false RP2.out.B (p : Int) (by omega) (by omega)).2
    have P2 := Run.putB RP2.out p (by show p < r.reached.length; omega)
    go_upto_region 8 with fail
    clear x1 x2 v2 v3 v4 v5
    generalize W2.setCell ⟨gr, p, none⟩ (.bool true) = W3 at P2 ⊢
    have RP3 := Aside0.mk P2.1; have SS3 := Aside0.mk (fun s' cs' h => P2.2.1 s' cs' (SS2.out s' cs' h)); have KB3 := Aside0.mk (fun q o h => P2.2.2 q o (KB2.out q o h)); clear P2 RP2 SS2 KB2
    have v2 := (blk_cell RP3.out.box 2).trans rfl
    have v3 := (blk_cell RP3.out.box 3).trans rfl
    have v4 := (blk_cell RP3.out.box 4).trans rfl
    have v5 := (blk_cell RP3.out.box 5).trans rfl
    have hbl : w0.heap.size ≤ lo := RP3.out.hlo
    go_wp2_with (((with_reducible refine gate_builtin (b := .append) (xs := #[.tmp 74, .tmp 76]) rfl ?_); at_builtin; refine Aside0.out ?_))
    refine ⟨?_⟩
    clear v2 v3 v4 v5
    have hlt3 := RP3.out.lt
    refine Kd.Q_append (Kd.int .i64) (w0 := W3) lo rfl (.tmp 74) (.tmp 76) 26 3 (.int .i64 0) 8 rfl Try.underlying26 info3 rfl (by decide) (by decide) (.slice AT nq yT) (r.queue.drop d) (p : Int) [.int .i64 (p : Int)] (fun b => b ≠ g) (fun _ => False) ?aV ?aX rfl (fun _ h => h.elim) (fun k hk e => by have := hlt3.1; omega) RP3.out.Q (Below.refl _ _) (Nat.le_of_lt (Nat.lt_of_le_of_lt (Kd.R_base RP3.out.L gl (by simp [Value.ownBlock])) (Kd.R_lt RP3.out.L gl (by simp [Value.ownBlock])))) (by rw [List.length_drop]; omega) ?_
    case aV => first | rfl | (go_simp; done) | (go_simp; rfl)
    case aX => first | rfl | (go_simp; done) | (go_simp; rfl)
    intro v9 w9 hq9 hb9 hg9 hat9
    obtain ⟨A9, y9, hv9, _⟩ := Kd.Q_slice hq9
    obtain ⟨n9, hn9⟩ : ∃ n9 : Nat, (r.queue.drop d ++ [(p : Int)]).length = n9 := ⟨_, rfl⟩
    rw [hn9] at hv9; subst hv9
    have P4 := RP3.out.app (p : Int) hd (by decide) hq9 (RP3.out.below.trans ⟨hb9.os, hb9.tape, hb9.output, hb9.size, fun i hi => hb9.block i (Nat.lt_of_lt_of_le hi hbl)⟩) hg9 hat9
    have RP4 := Aside0.mk P4.1; have SS4 := Aside0.mk (fun s' cs' h => P4.2.1 s' cs' (SS3.out s' cs' h)); have KB4 := Aside0.mk (fun q o h => P4.2.2 q o (KB3.out q o h)); clear P4 RP3 SS3 KB3 hq9 hb9 hg9 hat9 hlt3
    have v2 := (blk_cell RP4.out.box 4).trans rfl; have v3 := blk_frozen RP4.out.box 4
    go_wp2
    first | go_end0 | ((try simp only [Exit.inBlock, Exit.then]); refine bodyPost_ret (results_none rfl _ _ _) rfl ?_)
    have RF : Run 149 #[px, pf, (.slice (some ⟨gl, 0, none⟩) r.list.length yL), (.slice (some ⟨gr, 0, none⟩) r.reached.length yR), .slice A9 n9 y9, .bool r.bad] d g lo w0 (w9.setCell ⟨g, 4, none⟩ (.slice A9 n9 y9)) (come r p s) (.slice (some ⟨gl, 0, none⟩) r.list.length yL) (.slice (some ⟨gr, 0, none⟩) r.reached.length yR) (.slice A9 n9 y9) := (RP4.out.set 4 (.slice A9 n9 y9) rfl).as (by rw [HCE.out]) (by rw [HCE.out]) (by rw [HCE.out])
    have hbd : (come r p s).bad = r.bad := by rw [HCE.out]
    rw [hbd]
    first | exact ⟨_, rfl, RF, fun s' cs' h => (SS4.out s' cs' h).set _ _, fun q o h => (KB4.out q o h).set _ _⟩ | exact ⟨rfl, _, RF, fun s' cs' h => (SS4.out s' cs' h).set _ _, fun q o h => (KB4.out q o h).set _ _⟩
end Go.Proofs.Ytcbaokflimdjnaa.Flow
end
