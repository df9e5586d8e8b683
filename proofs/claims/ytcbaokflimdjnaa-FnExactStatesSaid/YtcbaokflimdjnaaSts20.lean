/- Part 20 of the proof: general lemmas, contracts of functions, walks. No condition of its own. -/
import Derived.Test.YtcbaokflimdjnaaSts19
import Derived.Test.YtcbaokflimdjnaaSts18
section
namespace Go.Proofs.Ytcbaokflimdjnaa.Flow
open Go.RowKit Go.Proofs.YtcbaokflimdjnaaW.PrintWords Go.Proofs.YtcbaokflimdjnaaW.PrintLast Go.Proofs.Ytcbaokflimdjnaa.Steps Go.Proofs.YtcbaokflimdjnaaW.PrintMore Go.Proofs.Ytcbaokflimdjnaa.Law Go.Proofs.Ytcbaokflimdjnaa Go.Proofs.Ytcbaokflimdjnaa.QFnExactVerify Go.Proofs.Ytcbaokflimdjnaa.Num Go.Proofs.Ytcbaokflimdjnaa.PureJoin
set_option linter.unusedVariables false
set_option linter.unusedSimpArgs false
set_option autoImplicit false
def flowS.T5 : Bool × List (List Nat × List Nat) := (true, [([], []), ([0], [0]), ([1], [1]), ([2], [2]), ([], []), ([3, 4], [3, 4]), ([5], [5]), ([], []), ([6, 7], [6, 7]), ([8, 8, 0, 1, 2, 3, 4, 5, 6, 7, 8], [8])])
def flowS.B5 : List Nat := [0, 1, 3, 7, 0, 31, 63, 0, 255, 511]
theorem flowS.tab5 : rtab .any (opsOf Try.f110 5) = flowS.T5 := by kernel_rfl
theorem flowS.bits5 : waitsOk flowS.T5.2 flowS.B5 = true := by kernel_rfl
def flowS.T6 : Bool × List (List Nat × List Nat) := (true, [([], []), ([], []), ([1], [1]), ([2], [2]), ([3], [3]), ([], []), ([4, 5], [4, 5]), ([6], [6]), ([0, 7], [0, 7])])
def flowS.B6 : List Nat := [0, 0, 2, 6, 14, 0, 62, 126, 255]
theorem flowS.tab6 : rtab .any (opsOf Try.f110 6) = flowS.T6 := by kernel_rfl
theorem flowS.bits6 : waitsOk flowS.T6.2 flowS.B6 = true := by kernel_rfl
def flowS.T7 : Bool × List (List Nat × List Nat) := (true, [([], []), ([0], [0]), ([1], [1]), ([2], [2]), ([], []), ([], []), ([3, 4, 0, 1, 2, 3, 4, 5], [3, 4]), ([6, 5, 0, 1, 2, 3, 4, 5], [5, 6])])
def flowS.B7 : List Nat := [0, 1, 3, 7, 0, 0, 63, 127]
theorem flowS.tab7 : rtab .any (opsOf Try.f110 7) = flowS.T7 := by kernel_rfl
theorem flowS.bits7 : waitsOk flowS.T7.2 flowS.B7 = true := by kernel_rfl
set_option maxHeartbeats 8000000 in
set_option maxRecDepth 100000 in
theorem cFlow (d g lo : Nat) (w0 w : World) (r : Fl) (vl vr vt : Value) (p : Nat) (s : State) (cs : List Value)
    (hr : Run 89 #[vl, vr, vt, .bool r.bad] d g lo w0 w r vl vr vt) (hs : SOk g lo w vt s cs) (hd : d ≤ r.queue.length) (hq : r.queue.length ≤ 1000000) (hlr : r.reached.length = r.list.length) (hll : r.list.length ≤ 1048576) (hls : s.regs.length ≤ 1048576) (hle : ∀ i : Nat, i < r.list.length → el false r.reached i = true → (el zState r.list i).regs.length ≤ 1048576) (hp : p ≤ 1000000) (hlow : lo ≤ w.heap.size) :
    Calls Try.prog 110 #[.pointer (some ⟨g, 0, none⟩), .int .i64 p, .agg ⟨cs⟩] w fun e w' => ∃ vt', e = .returned (.tuple #[]) ∧ Run 89 #[vl, vr, vt', .bool (come r p s).bad] d g lo w0 w' (come r p s) vl vr vt' ∧ (∀ s' cs', SOk g lo w vt s' cs' → SOk g lo w' vt' s' cs') ∧ (∀ q o, BOk g vl vr vt w q o → BOk g vl vr vt' w' q o) := by
  obtain ⟨v, rfl, hrs⟩ := kStateI_openM hs
  obtain ⟨AS, yS, rfl⟩ := Kd.R_slice hrs
  obtain ⟨AL, yL, rfl⟩ := Kd.R_slice hr.L
  obtain ⟨AR, yR, rfl⟩ := Kd.R_slice hr.B
  obtain ⟨AT, yT, rfl, hyT⟩ := Kd.Q_slice hr.Q
  clear hrs
  obtain ⟨nq, hnq⟩ : ∃ nq : Nat, (r.queue.drop d).length = nq := ⟨_, rfl⟩
  rw [hnq] at hr hs hyT ⊢
  have hu := Try.underlying31; have hu1 := Try.underlying48; have hu2 := Try.underlying49; have hu3 := Try.underlying26; have hu4 := Try.underlying89
  have HR := Aside0.mk hr; have HS := Aside0.mk hs; have HLE := Aside0.mk hle
  clear hr hs hle
  have M0 := Aside0.mk ((Mem.start w).allocAt rfl #[.int .i64 s.acc, .slice AS s.regs.length yS] 31)
  have B0 := Aside0.mk (below_alloc (Below.refl w.heap.size w) (.cells #[.int .i64 s.acc, .slice AS s.regs.length yS] 31))
  have R0 := Aside0.mk (HR.out.step B0.out); have S0 := Aside0.mk (HS.out.step B0.out)
  have q0 := (blk_cell R0.out.box 0).trans rfl
  have q1 := (blk_cell R0.out.box 1).trans rfl
  have q2 := (blk_cell R0.out.box 2).trans rfl
  have q3 := (blk_cell R0.out.box 3).trans rfl
  have f3 := blk_frozen R0.out.box 3
  have gn : (g : Nat) ≠ w.heap.size := Nat.ne_of_lt (blk_lt HR.out.box)
  go_enter Try.func110, Try.ntmps110
  by_cases hlt : p < r.list.length
  rotate_left
  · have hge : decide ((r.list.length : Int) ≤ (p : Int)) = true := by simp; omega
    have hce : come r p s = { r with bad := true } := by unfold come; rw [if_pos (by omega)]
    have HCE := Aside0.mk hce; clear hce
    go_wp2
    ((try simp only [Exit.inBlock, Exit.then]); refine bodyPost_ret (results_none rfl _ _ _) rfl ?_)
    refine ⟨.slice AT nq yT, rfl, ?_, fun s' cs' h => (h.step B0.out).set _ _, fun q o h => (h.step B0.out).set _ _⟩
    rw [HCE.out]
    exact (R0.out.set 3 (.bool true) rfl).as rfl rfl rfl
  have hge : decide ((r.list.length : Int) ≤ (p : Int)) = false := by simp; omega
  have hp0 : (0 : Int) ≤ (p : Int) := by omega
  have hpl : (p : Int) < (r.list.length : Int) := by omega
  have hpr : (p : Int) < (r.reached.length : Int) := by omega
  clear hlr
  obtain ⟨gl, cl, hgl, _, _, _, _⟩ := Kd.R_form HR.out.L (by omega)
  injection hgl with h1 h2 h3; subst h1; subst h3; clear h2
  obtain ⟨gr, cr, hgr, _, _, _, _⟩ := Kd.R_form HR.out.B (by omega)
  injection hgr with h1 h2 h3; subst h1; subst h3; clear h2
  obtain ⟨rb, hrb⟩ : ∃ rb, rb = el false r.reached p := ⟨_, rfl⟩
  have B1 := Aside0.mk (below_alloc B0.out (.cells #[.int .i64 s.acc, .slice AS s.regs.length yS] 31)); have M1 := Aside0.mk (M0.out.allocAt (g := w.heap.size + 1) (by simp) #[.int .i64 s.acc, .slice AS s.regs.length yS] 31)
  have R1 := Aside0.mk (HR.out.step B1.out); have S1 := Aside0.mk (HS.out.step B1.out)
  have z0 := M0.out.box (.head _); have z1 := M1.out.box (.head _)
  have u0 := (blk_cell R1.out.box 0).trans rfl
  have u1 := (blk_cell R1.out.box 1).trans rfl
  have u2 := (blk_cell R1.out.box 2).trans rfl
  have u3 := (blk_cell R1.out.box 3).trans rfl
  have x0 : ((w.alloc (.cells #[.int .i64 s.acc, .slice AS s.regs.length yS] 31)).alloc (.cells #[.int .i64 s.acc, .slice AS s.regs.length yS] 31)).cell? ⟨gr, p, none⟩ = some (.bool rb) := by have h := (Kd.R_celln false R1.out.B (p : Int) (by omega) (by omega)).1; rw [Int.toNat_natCast] at h; rw [hrb]; exact h
  rcases Bool.eq_false_or_eq_true rb with hb1 | hb1
  · subst hb1
    obtain ⟨c, hcl, hcM, hcc, hcf⟩ := Kd.R_elem HR.out.L zState (p : Int) (by omega) (by omega)
    obtain ⟨a, ha⟩ : ∃ a, a = el zState r.list p := ⟨_, rfl⟩
    have hcM2 := hcM
    rw [Int.toNat_natCast, show r.list.getD p zState = a from ha.symm] at hcM2
    obtain ⟨va, rfl, hra⟩ := kStateI_openM hcM2
    obtain ⟨AA, yA, rfl⟩ := Kd.R_slice hra
    have hla : a.regs.length ≤ 1048576 := by rw [ha]; exact HLE.out p hlt hrb.symm
    have KA := Aside0.mk (kStateI.K_of_M hcM2)
    have E0 := Aside0.mk (show w.cell? ⟨gl, p * 2, none⟩ = some (.int .i64 a.acc) from hcc 0 _ rfl); have E1 := Aside0.mk (show w.cell? ⟨gl, p * 2 + 1, none⟩ = some (.slice AA a.regs.length yA) from hcc 1 _ rfl)
    clear hcl hcM hcc hcf hcM2 hra
    obtain ⟨J, hJ⟩ : ∃ J, J = joinS a s := ⟨_, rfl⟩
    have hlj : J.regs.length ≤ 1048576 := by rw [hJ]; show (joined a.regs s.regs).length ≤ 1048576; rw [joined_length]; omega
    have HRB := Aside0.mk hrb; have HA := Aside0.mk ha; have HJ := Aside0.mk hJ; clear hrb ha hJ
    go_upto_region 5 with fail
    clear z0 z1 q0 q1 q2 q3 u0 u1 u2 u3 f3 x0
    generalize ((w.alloc (.cells #[.int .i64 s.acc, .slice AS s.regs.length yS] 31)).alloc (.cells #[.int .i64 s.acc, .slice AS s.regs.length yS] 31)) = wq at M1 ⊢
    obtain ⟨L, HL, ML⟩ := Mem.hide M1
    have ES := Aside0.mk (show Hold.box w.heap.size #[.int .i64 s.acc, .slice AS s.regs.length yS] 31 ∈ L from HL.out ▸ (.tail _ (.head _)))
    have MD := Aside0.mk ML.out.drew
    clear M1 ML
    have EW := Aside0.mk (show Hold.box (w.heap.size + 1) #[.int .i64 s.acc, .slice AS s.regs.length yS] 31 ∈ L from HL.out ▸ (.head _))
    refine sz 10 (fun W => W.cell? ⟨g, 0, none⟩ = some (.slice (some ⟨gl, 0, none⟩) r.list.length yL) ∧ W.cell? ⟨gl, p * 2, none⟩ = some (.int .i64 a.acc) ∧ W.cell? ⟨gl, p * 2 + 1, none⟩ = some (.slice AA a.regs.length yA) ∧ W.cell? ⟨w.heap.size, 0, none⟩ = some (.int .i64 s.acc) ∧ W.cell? ⟨w.heap.size, 1, none⟩ = some (.slice AS s.regs.length yS)) [9] flowS.tab5 flowS.bits5 ⟨(blk_cell (HR.out.step MD.out.below).box 0).trans rfl, pw_cell_below MD.out.below E0.out, pw_cell_below MD.out.below E1.out, (MD.out.box ES.out 0).trans rfl, (MD.out.box ES.out 1).trans rfl⟩ (fun HT_ HW_ hHeld => ?_)
    generalize wq.drew = wd at MD hHeld ⊢
    have HWD := Aside0.mk MD.out.below.size
    refine pz 0 25 ?_; refine pz 1 26 ?_; refine pz 2 27 ?_; refine pz 4 29 ?_; refine tz 3 28 ?_; refine pz 5 30 ?_; refine tz 6 31 ?_; refine tz 7 32 ?_
    refine ez 8 (some 33) (fun K hK => ?_)
    refine gz Try.func142 #[.agg #[.int .i64 a.acc, .slice AA a.regs.length yA], .agg #[.int .i64 s.acc, .slice AS s.regs.length yS]] ?_
    refine (specJoin a s _ _ _ (kStateI.K_below MD.out.below KA.out) (kStateI.K_below MD.out.below HS.out.K) hla hls).mono ?_; rintro e w5 ⟨ds, rfl, hm, hb⟩; rw [← HJ.out] at hm; obtain ⟨v5, rfl, hr5⟩ := kStateI_openM hm; obtain ⟨XJ, yJ, rfl⟩ := Kd.R_slice hr5; clear hr5
    have M5 := Aside0.mk (MD.out.push hb hm); have ES5 := Aside0.mk (List.Mem.tail (Hold.val kStateI wd.heap.size w5.heap.size J [.int .i64 J.acc, .slice XJ J.regs.length yJ]) ES.out); clear hm hb
    refine ⟨_, rfl, ?_⟩
    refine hK.out _ _ ⟨(blk_cell (HR.out.step M5.out.below).box 0).trans rfl, pw_cell_below M5.out.below E0.out, pw_cell_below M5.out.below E1.out, (M5.out.box ES5.out 0).trans rfl, (M5.out.box ES5.out 1).trans rfl⟩ (fun hHeld => ?_); clear hK K; refine kz (some 33) ?_
    refine lz 9 none (fun K hK => ?_)
    have b0 := M5.out.box (List.Mem.tail _ EW.out); have b1 := M5.out.free (List.Mem.tail _ EW.out)
    refine skip_ (w1 := ?_) (by rfl) rfl ?_ ?_
    rotate_left
    · go_simp
      rfl
    clear b0 b1
    refine hK.out _ _ ?_; clear hK K
    refine dz ?_
    have hl := HL.out; subst hl; clear HL ES ES5 EW MD hHeld
    have M6 := Aside0.mk (Mem.set (A := [_]) (Mem.set (A := [_]) M5.out 0 (.int .i64 J.acc) rfl) 1 (.slice XJ J.regs.length yJ) rfl)
    obtain ⟨W6, hW6⟩ : ∃ W6, W6 = (w5.setCell ⟨(w.heap.size + 1), 0, none⟩ (.int .i64 J.acc)).setCell ⟨(w.heap.size + 1), 1, none⟩ (.slice XJ J.regs.length yJ) := ⟨_, rfl⟩
    rw [← hW6] at M6
    try rw [← hW6]
    clear M5 hW6
    have HVJ := Aside0.mk (M6.out.val (.head _))
    have SJ := Aside0.mk (show SOk g lo W6 (.slice AT nq yT) J [.int .i64 J.acc, .slice XJ J.regs.length yJ] from kStateI.M_mono (fun k hk => ⟨fun e => by have h1 := hk.1; have h2 := HR.out.lt.1; have h3 := HWD.out; omega, fun e => by have h1 := hk.1; have h2 := HR.out.lt.2 k e.symm; have h3 := HWD.out; omega⟩) (kStateI.M_lower (Nat.le_trans hlow HWD.out) HVJ.out))
    by_cases hja : J = a
    · have HDJ := Aside0.mk (decide_eq_true hja); have HJA := Aside0.mk hja; clear hja
      go_upto_region 6 with fail
      obtain ⟨L, HL, ML⟩ := Mem.hide M6
      have EW := Aside0.mk (show Hold.box (w.heap.size + 1) #[.int .i64 J.acc, .slice XJ J.regs.length yJ] 31 ∈ L from HL.out ▸ (.tail _ (.head _)))
      have MD := Aside0.mk ML.out.drew; have SD := Aside0.mk (SJ.out.step (below_drew1 (Below.refl _ _)))
      clear M6 ML HVJ SJ
      refine sz 9 (fun W => W.cell? ⟨g, 0, none⟩ = some (.slice (some ⟨gl, 0, none⟩) r.list.length yL) ∧ W.cell? ⟨gl, p * 2, none⟩ = some (.int .i64 a.acc) ∧ W.cell? ⟨gl, p * 2 + 1, none⟩ = some (.slice AA a.regs.length yA) ∧ W.cell? ⟨(w.heap.size + 1), 0, none⟩ = some (.int .i64 J.acc) ∧ W.cell? ⟨(w.heap.size + 1), 1, none⟩ = some (.slice XJ J.regs.length yJ)) [] flowS.tab6 flowS.bits6 ⟨(blk_cell (HR.out.step MD.out.below).box 0).trans rfl, pw_cell_below MD.out.below E0.out, pw_cell_below MD.out.below E1.out, (MD.out.box EW.out 0).trans rfl, (MD.out.box EW.out 1).trans rfl⟩ (fun HT_ HW_ hHeld => ?_)
      generalize W6.drew = wd6 at MD SD hHeld ⊢
      refine pz 1 35 ?_; refine pz 2 36 ?_; refine pz 3 37 ?_; refine pz 5 39 ?_; refine tz 0 34 ?_; refine tz 4 38 ?_; refine pz 6 40 ?_; refine tz 7 41 ?_
      refine ez 8 (some 42) (fun K hK => ?_)
      refine gz Try.func143 #[.agg #[.int .i64 J.acc, .slice XJ J.regs.length yJ], .agg #[.int .i64 a.acc, .slice AA a.regs.length yA]] ?_
      have C := cSame J a _ _ _ SD.out.K (kStateI.K_below MD.out.below KA.out) hlj
      rw [HDJ.out] at C
      refine C.mono ?_; clear C; rintro e w7 ⟨rfl, hb⟩
      have M7 := Aside0.mk (MD.out.step hb); have S7 := Aside0.mk (SD.out.step hb); clear hb
      refine ⟨_, rfl, ?_⟩
      refine hK.out _ _ ⟨(blk_cell (HR.out.step M7.out.below).box 0).trans rfl, pw_cell_below M7.out.below E0.out, pw_cell_below M7.out.below E1.out, (M7.out.box EW.out 0).trans rfl, (M7.out.box EW.out 1).trans rfl⟩ (fun hHeld => ?_); clear hK K; refine kz (some 42) ?_
      refine dz ?_
      have HCE := Aside0.mk (show come r p s = r by unfold come; rw [if_neg (by omega), ← HRB.out, if_pos rfl, ← HA.out, ← HJ.out, if_pos HJA.out])
      have hl := HL.out; subst hl; clear HL EW
      go_wp2
      first | go_end0 | ((try simp only [Exit.inBlock, Exit.then]); refine bodyPost_ret (results_none rfl _ _ _) rfl ?_)
      rw [HCE.out]
      first | exact ⟨_, rfl, HR.out.step M7.out.below, fun s' cs' h => h.step M7.out.below, fun q o h => h.step M7.out.below⟩ | exact ⟨rfl, _, HR.out.step M7.out.below, fun s' cs' h => h.step M7.out.below, fun q o h => h.step M7.out.below⟩
    · have HDJ := Aside0.mk (decide_eq_false hja); have HJA := Aside0.mk hja; clear hja
      go_upto_region 6 with fail
      obtain ⟨L, HL, ML⟩ := Mem.hide M6
      have EW := Aside0.mk (show Hold.box (w.heap.size + 1) #[.int .i64 J.acc, .slice XJ J.regs.length yJ] 31 ∈ L from HL.out ▸ (.tail _ (.head _)))
      have MD := Aside0.mk ML.out.drew; have SD := Aside0.mk (SJ.out.step (below_drew1 (Below.refl _ _)))
      clear M6 ML HVJ SJ
      refine sz 9 (fun W => W.cell? ⟨g, 0, none⟩ = some (.slice (some ⟨gl, 0, none⟩) r.list.length yL) ∧ W.cell? ⟨gl, p * 2, none⟩ = some (.int .i64 a.acc) ∧ W.cell? ⟨gl, p * 2 + 1, none⟩ = some (.slice AA a.regs.length yA) ∧ W.cell? ⟨(w.heap.size + 1), 0, none⟩ = some (.int .i64 J.acc) ∧ W.cell? ⟨(w.heap.size + 1), 1, none⟩ = some (.slice XJ J.regs.length yJ)) [] flowS.tab6 flowS.bits6 ⟨(blk_cell (HR.out.step MD.out.below).box 0).trans rfl, pw_cell_below MD.out.below E0.out, pw_cell_below MD.out.below E1.out, (MD.out.box EW.out 0).trans rfl, (MD.out.box EW.out 1).trans rfl⟩ (fun HT_ HW_ hHeld => ?_)
      generalize W6.drew = wd6 at MD SD hHeld ⊢
      refine pz 1 35 ?_; refine pz 2 36 ?_; refine pz 3 37 ?_; refine pz 5 39 ?_; refine tz 0 34 ?_; refine tz 4 38 ?_; refine pz 6 40 ?_; refine tz 7 41 ?_
      refine ez 8 (some 42) (fun K hK => ?_)
      refine gz Try.func143 #[.agg #[.int .i64 J.acc, .slice XJ J.regs.length yJ], .agg #[.int .i64 a.acc, .slice AA a.regs.length yA]] ?_
      have C := cSame J a _ _ _ SD.out.K (kStateI.K_below MD.out.below KA.out) hlj
      rw [HDJ.out] at C
      refine C.mono ?_; clear C; rintro e w7 ⟨rfl, hb⟩
      have M7 := Aside0.mk (MD.out.step hb); have S7 := Aside0.mk (SD.out.step hb); clear hb
      refine ⟨_, rfl, ?_⟩
      refine hK.out _ _ ⟨(blk_cell (HR.out.step M7.out.below).box 0).trans rfl, pw_cell_below M7.out.below E0.out, pw_cell_below M7.out.below E1.out, (M7.out.box EW.out 0).trans rfl, (M7.out.box EW.out 1).trans rfl⟩ (fun hHeld => ?_); clear hK K; refine kz (some 42) ?_
      refine dz ?_
      have HCE := Aside0.mk (show come r p s = { r with list := r.list.set p J, reached := r.reached.set p true, queue := r.queue ++ [(p : Int)] } by unfold come; rw [if_neg (by omega), ← HRB.out, if_pos rfl, ← HA.out, ← HJ.out, if_neg HJA.out])
      have hl := HL.out; subst hl; clear HL EW
      go_upto_region 7 with fail
      have BB := Aside0.mk M7.out.below; have RR := Aside0.mk (HR.out.step BB.out)
      obtain ⟨L, HL, ML⟩ := Mem.hide M7
      have EN := Aside0.mk (show Hold.box (w.heap.size + 1) #[.int .i64 J.acc, .slice XJ J.regs.length yJ] 31 ∈ L from HL.out ▸ (.tail _ (.head _)))
      have MD := Aside0.mk ML.out.drew; have RD := Aside0.mk (RR.out.step (below_drew1 (Below.refl _ _))); have SD := Aside0.mk (S7.out.step (below_drew1 (Below.refl _ _))); have BD := Aside0.mk (below_drew1 BB.out)
      clear M7 RR BB S7 ML
      refine sz 8 (fun W => W.cell? ⟨g, 0, none⟩ = some (.slice (some ⟨gl, 0, none⟩) r.list.length yL) ∧ W.cell? ⟨w.heap.size + 1, 0, none⟩ = some (.int .i64 J.acc) ∧ W.cell? ⟨w.heap.size + 1, 1, none⟩ = some (.slice XJ J.regs.length yJ)) [7] flowS.tab7 flowS.bits7 ⟨(blk_cell RD.out.box 0).trans rfl, (MD.out.box EN.out 0).trans rfl, (MD.out.box EN.out 1).trans rfl⟩ (fun HT_ HW_ hHeld => ?_)
      generalize w7.drew = wd8 at MD RD SD BD hHeld ⊢
      obtain ⟨c, hcl, _, hcc, hcf⟩ := Kd.R_elem RD.out.L zState (p : Int) (by omega) (by omega)
      obtain ⟨c0, c1, rfl⟩ : ∃ c0 c1, c = [c0, c1] := by cases c with | nil => cases hcl | cons c0 c => cases c with | nil => cases hcl | cons c1 c => cases c with | nil => exact ⟨c0, c1, rfl⟩ | cons _ _ => cases hcl
      have k0 : wd8.cell? ⟨gl, p * 2, none⟩ = some c0 := hcc 0 c0 rfl
      have k1 : wd8.cell? ⟨gl, p * 2 + 1, none⟩ = some c1 := hcc 1 c1 rfl
      have k2 : wd8.frozen? ⟨gl, p * 2, none⟩ = false := hcf 0
      have k3 : wd8.frozen? ⟨gl, p * 2 + 1, none⟩ = false := hcf 1
      clear hcl hcc hcf
      refine pz 0 43 ?_; refine pz 1 44 ?_; refine pz 2 45 ?_; refine pz 4 47 ?_; refine tz 3 46 ?_; refine tz 5 48 ?_; refine pz 6 49 ?_
      refine lz 7 none (fun K hK => ?_)
      refine skip_ (w1 := ?_) (by rfl) rfl ?_ ?_
      rotate_left
      · go_simp
        rfl
      refine hK.out _ _ ?_; clear hK K
      refine dz ?_
      clear k0 k1 k2 k3
      have P1 := Run.putL RD.out (by decide) p hlt SD.out (fun h => absurd h (by decide))
      obtain ⟨W2, hW2⟩ : ∃ W2, W2 = (wd8.setCell ⟨gl, p * 2, none⟩ (.int .i64 J.acc)).setCell ⟨gl, p * 2 + 1, none⟩ (.slice XJ J.regs.length yJ) := ⟨_, rfl⟩
      rw [← hW2]
      have RP2 := Aside0.mk (show Run 89 #[.slice (some ⟨gl, 0, none⟩) r.list.length yL, .slice (some ⟨gr, 0, none⟩) r.reached.length yR, .slice AT nq yT, .bool r.bad] d g lo w0 W2 { r with list := r.list.set p J } (.slice (some ⟨gl, 0, none⟩) r.list.length yL) (.slice (some ⟨gr, 0, none⟩) r.reached.length yR) (.slice AT nq yT) from hW2 ▸ P1.1)
      have SS2 := Aside0.mk (show ∀ s' cs', SOk g lo w (.slice AT nq yT) s' cs' → SOk g lo W2 (.slice AT nq yT) s' cs' from fun s' cs' h => hW2 ▸ P1.2.1 s' cs' (h.step BD.out))
      have KB2 := Aside0.mk (show ∀ q o, BOk g (.slice (some ⟨gl, 0, none⟩) r.list.length yL) (.slice (some ⟨gr, 0, none⟩) r.reached.length yR) (.slice AT nq yT) w q o → BOk g (.slice (some ⟨gl, 0, none⟩) r.list.length yL) (.slice (some ⟨gr, 0, none⟩) r.reached.length yR) (.slice AT nq yT) W2 q o from fun q o h => hW2 ▸ P1.2.2 q o (h.step BD.out))
      clear P1 hW2
      have v0 := (blk_cell RP2.out.box 0).trans rfl
      have v1 := (blk_cell RP2.out.box 1).trans rfl
      have v2 := (blk_cell RP2.out.box 2).trans rfl
      have v3 := (blk_cell RP2.out.box 3).trans rfl
      have x1 : W2.cell? ⟨gr, p, none⟩ = some (.bool _) := (Kd.R_celln false RP2.out.B (p : Int) (by omega) (by omega)).1; have x2 : W2.frozen? ⟨gr, p, none⟩ = false := (Kd.R_celln false RP2.out.B (p : Int) (by omega) (by omega)).2
      have P2 := Run.putB RP2.out p (by show p < r.reached.length; omega)
      go_upto_region 9 with fail
      clear x1 x2 v0 v1 v2 v3
      generalize W2.setCell ⟨gr, p, none⟩ (.bool true) = W3 at P2 ⊢
      have RP3 := Aside0.mk P2.1; have SS3 := Aside0.mk (fun s' cs' h => P2.2.1 s' cs' (SS2.out s' cs' h)); have KB3 := Aside0.mk (fun q o h => P2.2.2 q o (KB2.out q o h)); clear P2 RP2 SS2 KB2
      have v0 := (blk_cell RP3.out.box 0).trans rfl
      have v1 := (blk_cell RP3.out.box 1).trans rfl
      have v2 := (blk_cell RP3.out.box 2).trans rfl
      have v3 := (blk_cell RP3.out.box 3).trans rfl
      have hbl : w0.heap.size ≤ lo := RP3.out.hlo
      go_wp2_with (((with_reducible refine gate_builtin (b := .append) (xs := #[.tmp 60, .tmp 62]) rfl ?_); at_builtin; refine Aside0.out ?_))
      refine ⟨?_⟩
      clear v0 v1 v2 v3
      have hlt3 := RP3.out.lt
      refine Kd.Q_append (Kd.int .i64) (w0 := W3) lo rfl (.tmp 60) (.tmp 62) 26 3 (.int .i64 0) 8 rfl Try.underlying26 info3 rfl (by decide) (by decide) (.slice AT nq yT) (r.queue.drop d) (p : Int) [.int .i64 (p : Int)] (fun b => b ≠ g) (fun _ => False) ?aV ?aX rfl (fun _ h => h.elim) (fun k hk e => by have := hlt3.1; omega) RP3.out.Q (Below.refl _ _) (Nat.le_of_lt (Nat.lt_of_le_of_lt (Kd.R_base RP3.out.L gl (by simp [Value.ownBlock])) (Kd.R_lt RP3.out.L gl (by simp [Value.ownBlock])))) (by rw [List.length_drop]; omega) ?_
      case aV => first | rfl | (go_simp; done) | (go_simp; rfl)
      case aX => first | rfl | (go_simp; done) | (go_simp; rfl)
      intro v9 w9 hq9 hb9 hg9 hat9
      obtain ⟨A9, y9, hv9, _⟩ := Kd.Q_slice hq9
      obtain ⟨n9, hn9⟩ : ∃ n9 : Nat, (r.queue.drop d ++ [(p : Int)]).length = n9 := ⟨_, rfl⟩
      rw [hn9] at hv9; subst hv9
      have P4 := RP3.out.app (p : Int) hd (by decide) hq9 (RP3.out.below.trans ⟨hb9.os, hb9.tape, hb9.output, hb9.size, fun i hi => hb9.block i (Nat.lt_of_lt_of_le hi hbl)⟩) hg9 hat9
      have RP4 := Aside0.mk P4.1; have SS4 := Aside0.mk (fun s' cs' h => P4.2.1 s' cs' (SS3.out s' cs' h)); have KB4 := Aside0.mk (fun q o h => P4.2.2 q o (KB3.out q o h)); clear P4 RP3 SS3 KB3 hq9 hb9 hg9 hat9 hlt3
      have v2 := (blk_cell RP4.out.box 2).trans rfl; have v3 := blk_frozen RP4.out.box 2
      go_wp2
      first | go_end0 | ((try simp only [Exit.inBlock, Exit.then]); refine bodyPost_ret (results_none rfl _ _ _) rfl ?_)
      have RF : Run 89 #[(.slice (some ⟨gl, 0, none⟩) r.list.length yL), (.slice (some ⟨gr, 0, none⟩) r.reached.length yR), .slice A9 n9 y9, .bool r.bad] d g lo w0 (w9.setCell ⟨g, 2, none⟩ (.slice A9 n9 y9)) (come r p s) (.slice (some ⟨gl, 0, none⟩) r.list.length yL) (.slice (some ⟨gr, 0, none⟩) r.reached.length yR) (.slice A9 n9 y9) := (RP4.out.set 2 (.slice A9 n9 y9) rfl).as (by rw [HCE.out]) (by rw [HCE.out]) (by rw [HCE.out])
      have hbd : (come r p s).bad = r.bad := by rw [HCE.out]
      rw [hbd]
      first | exact ⟨_, rfl, RF, fun s' cs' h => (SS4.out s' cs' h).set _ _, fun q o h => (KB4.out q o h).set _ _⟩ | exact ⟨rfl, _, RF, fun s' cs' h => (SS4.out s' cs' h).set _ _, fun q o h => (KB4.out q o h).set _ _⟩
  · subst hb1
    have HCE := Aside0.mk (show come r p s = { r with list := r.list.set p s, reached := r.reached.set p true, queue := r.queue ++ [(p : Int)] } by unfold come; rw [if_neg (by omega), ← hrb]; rfl)
    clear hrb
    go_upto_region 7 with fail
    clear z0 z1 q0 q1 q2 q3 u0 u1 u2 u3 f3 x0
    generalize ((w.alloc (.cells #[.int .i64 s.acc, .slice AS s.regs.length yS] 31)).alloc (.cells #[.int .i64 s.acc, .slice AS s.regs.length yS] 31)) = wq at M1 S1 ⊢
    have BB := Aside0.mk M1.out.below; have RR := Aside0.mk (HR.out.step BB.out)
    obtain ⟨L, HL, ML⟩ := Mem.hide M1
    have EN := Aside0.mk (show Hold.box (w.heap.size + 1) #[.int .i64 s.acc, .slice AS s.regs.length yS] 31 ∈ L from HL.out ▸ (.head _))
    have MD := Aside0.mk ML.out.drew; have RD := Aside0.mk (RR.out.step (below_drew1 (Below.refl _ _))); have SD := Aside0.mk (S1.out.step (below_drew1 (Below.refl _ _))); have BD := Aside0.mk (below_drew1 BB.out)
    clear M1 RR BB S1 ML
    refine sz 8 (fun W => W.cell? ⟨g, 0, none⟩ = some (.slice (some ⟨gl, 0, none⟩) r.list.length yL) ∧ W.cell? ⟨w.heap.size + 1, 0, none⟩ = some (.int .i64 s.acc) ∧ W.cell? ⟨w.heap.size + 1, 1, none⟩ = some (.slice AS s.regs.length yS)) [7] flowS.tab7 flowS.bits7 ⟨(blk_cell RD.out.box 0).trans rfl, (MD.out.box EN.out 0).trans rfl, (MD.out.box EN.out 1).trans rfl⟩ (fun HT_ HW_ hHeld => ?_)
    generalize wq.drew = wd8 at MD RD SD BD hHeld ⊢
    obtain ⟨c, hcl, _, hcc, hcf⟩ := Kd.R_elem RD.out.L zState (p : Int) (by omega) (by omega)
    obtain ⟨c0, c1, rfl⟩ : ∃ c0 c1, c = [c0, c1] := by cases c with | nil => cases hcl | cons c0 c => cases c with | nil => cases hcl | cons c1 c => cases c with | nil => exact ⟨c0, c1, rfl⟩ | cons _ _ => cases hcl
    have k0 : wd8.cell? ⟨gl, p * 2, none⟩ = some c0 := hcc 0 c0 rfl
    have k1 : wd8.cell? ⟨gl, p * 2 + 1, none⟩ = some c1 := hcc 1 c1 rfl
    have k2 : wd8.frozen? ⟨gl, p * 2, none⟩ = false := hcf 0
    have k3 : wd8.frozen? ⟨gl, p * 2 + 1, none⟩ = false := hcf 1
    clear hcl hcc hcf
    refine pz 0 43 ?_; refine pz 1 44 ?_; refine pz 2 45 ?_; refine pz 4 47 ?_; refine tz 3 46 ?_; refine tz 5 48 ?_; refine pz 6 49 ?_
    refine lz 7 none (fun K hK => ?_)
    refine skip_ (w1 := ?_) (by rfl) rfl ?_ ?_
    rotate_left
    · go_simp
      rfl
    refine hK.out _ _ ?_; clear hK K
    refine dz ?_
    clear k0 k1 k2 k3
    have P1 := Run.putL RD.out (by decide) p hlt SD.out (fun h => absurd h (by decide))
    obtain ⟨W2, hW2⟩ : ∃ W2, W2 = (wd8.setCell ⟨gl, p * 2, none⟩ (.int .i64 s.acc)).setCell ⟨gl, p * 2 + 1, none⟩ (.slice AS s.regs.length yS) := ⟨_, rfl⟩
    rw [← hW2]
    have RP2 := Aside0.mk (show Run 89 #[.slice (some ⟨gl, 0, none⟩) r.list.length yL, .slice (some ⟨gr, 0, none⟩) r.reached.length yR, .slice AT nq yT, .bool r.bad] d g lo w0 W2 { r with list := r.list.set p s } (.slice (some ⟨gl, 0, none⟩) r.list.length yL) (.slice (some ⟨gr, 0, none⟩) r.reached.length yR) (.slice AT nq yT) from hW2 ▸ P1.1)
    have SS2 := Aside0.mk (show ∀ s' cs', SOk g lo w (.slice AT nq yT) s' cs' → SOk g lo W2 (.slice AT nq yT) s' cs' from fun s' cs' h => hW2 ▸ P1.2.1 s' cs' (h.step BD.out))
    have KB2 := Aside0.mk (show ∀ q o, BOk g (.slice (some ⟨gl, 0, none⟩) r.list.length yL) (.slice (some ⟨gr, 0, none⟩) r.reached.length yR) (.slice AT nq yT) w q o → BOk g (.slice (some ⟨gl, 0, none⟩) r.list.length yL) (.slice (some ⟨gr, 0, none⟩) r.reached.length yR) (.slice AT nq yT) W2 q o from fun q o h => hW2 ▸ P1.2.2 q o (h.step BD.out))
    clear P1 hW2
    have v0 := (blk_cell RP2.out.box 0).trans rfl
    have v1 := (blk_cell RP2.out.box 1).trans rfl
    have v2 := (blk_cell RP2.out.box 2).trans rfl
    have v3 := (blk_cell RP2.out.box 3).trans rfl
    have x1 : W2.cell? ⟨gr, p, none⟩ = some (.bool _) := (Kd.R_celln false RP2.out.B (p : Int) (by omega) (by omega)).1; have x2 : W2.frozen? ⟨gr, p, none⟩ = false := (Kd.R_celln false RP2.out.B (p : Int) (by omega) (by omega)).2
    have P2 := Run.putB RP2.out p (by show p < r.reached.length; omega)
    go_upto_region 9 with fail
    clear x1 x2 v0 v1 v2 v3
    generalize W2.setCell ⟨gr, p, none⟩ (.bool true) = W3 at P2 ⊢
    have RP3 := Aside0.mk P2.1; have SS3 := Aside0.mk (fun s' cs' h => P2.2.1 s' cs' (SS2.out s' cs' h)); have KB3 := Aside0.mk (fun q o h => P2.2.2 q o (KB2.out q o h)); clear P2 RP2 SS2 KB2
    have v0 := (blk_cell RP3.out.box 0).trans rfl
    have v1 := (blk_cell RP3.out.box 1).trans rfl
    have v2 := (blk_cell RP3.out.box 2).trans rfl
    have v3 := (blk_cell RP3.out.box 3).trans rfl
    have hbl : w0.heap.size ≤ lo := RP3.out.hlo
    go_wp2_with (((with_reducible refine gate_builtin (b := .append) (xs := #[.tmp 60, .tmp 62]) rfl ?_); at_builtin; refine Aside0.out ?_))
    refine ⟨?_⟩
    clear v0 v1 v2 v3
    have hlt3 := RP3.out.lt
    refine Kd.Q_append (Kd.int .i64) (w0 := W3) lo rfl (.tmp 60) (.tmp 62) 26 3 (.int .i64 0) 8 rfl Try.underlying26 info3 rfl (by decide) (by decide) (.slice AT nq yT) (r.queue.drop d) (p : Int) [.int .i64 (p : Int)] (fun b => b ≠ g) (fun _ => False) ?aV ?aX rfl (fun _ h => h.elim) (fun k hk e => by have := hlt3.1; omega) RP3.out.Q (Below.refl _ _) (Nat.le_of_lt (Nat.lt_of_le_of_lt (Kd.R_base RP3.out.L gl (by simp [Value.ownBlock])) (Kd.R_lt RP3.out.L gl (by simp [Value.ownBlock])))) (by rw [List.length_drop]; omega) ?_
    case aV => first | rfl | (go_simp; done) | (go_simp; rfl)
    case aX => first | rfl | (go_simp; done) | (go_simp; rfl)
    intro v9 w9 hq9 hb9 hg9 hat9
    obtain ⟨A9, y9, hv9, _⟩ := Kd.Q_slice hq9
    obtain ⟨n9, hn9⟩ : ∃ n9 : Nat, (r.queue.drop d ++ [(p : Int)]).length = n9 := ⟨_, rfl⟩
    rw [hn9] at hv9; subst hv9
    have P4 := RP3.out.app (p : Int) hd (by decide) hq9 (RP3.out.below.trans ⟨hb9.os, hb9.tape, hb9.output, hb9.size, fun i hi => hb9.block i (Nat.lt_of_lt_of_le hi hbl)⟩) hg9 hat9
    have RP4 := Aside0.mk P4.1; have SS4 := Aside0.mk (fun s' cs' h => P4.2.1 s' cs' (SS3.out s' cs' h)); have KB4 := Aside0.mk (fun q o h => P4.2.2 q o (KB3.out q o h)); clear P4 RP3 SS3 KB3 hq9 hb9 hg9 hat9 hlt3
    have v2 := (blk_cell RP4.out.box 2).trans rfl; have v3 := blk_frozen RP4.out.box 2
    go_wp2
    first | go_end0 | ((try simp only [Exit.inBlock, Exit.then]); refine bodyPost_ret (results_none rfl _ _ _) rfl ?_)
    have RF : Run 89 #[(.slice (some ⟨gl, 0, none⟩) r.list.length yL), (.slice (some ⟨gr, 0, none⟩) r.reached.length yR), .slice A9 n9 y9, .bool r.bad] d g lo w0 (w9.setCell ⟨g, 2, none⟩ (.slice A9 n9 y9)) (come r p s) (.slice (some ⟨gl, 0, none⟩) r.list.length yL) (.slice (some ⟨gr, 0, none⟩) r.reached.length yR) (.slice A9 n9 y9) := (RP4.out.set 2 (.slice A9 n9 y9) rfl).as (by rw [HCE.out]) (by rw [HCE.out]) (by rw [HCE.out])
    have hbd : (come r p s).bad = r.bad := by rw [HCE.out]
    rw [hbd]
    first | exact ⟨_, rfl, RF, fun s' cs' h => (SS4.out s' cs' h).set _ _, fun q o h => (KB4.out q o h).set _ _⟩ | exact ⟨rfl, _, RF, fun s' cs' h => (SS4.out s' cs' h).set _ _, fun q o h => (KB4.out q o h).set _ _⟩
end Go.Proofs.Ytcbaokflimdjnaa.Flow
end
section
namespace Go.Proofs.Ytcbaokflimdjnaa.Flow
open Go.RowKit Go.Proofs.YtcbaokflimdjnaaW.PrintWords Go.Proofs.YtcbaokflimdjnaaW.PrintLast Go.Proofs.Ytcbaokflimdjnaa.Steps Go.Proofs.YtcbaokflimdjnaaW.PrintMore Go.Proofs.Ytcbaokflimdjnaa.Law Go.Proofs.Ytcbaokflimdjnaa Go.Proofs.Ytcbaokflimdjnaa.QFnExactVerify Go.Proofs.Ytcbaokflimdjnaa.Num Go.Proofs.Ytcbaokflimdjnaa.PureJoin
set_option linter.unusedVariables false
set_option linter.unusedSimpArgs false
set_option autoImplicit false
def stepOk (x : Image) (f : Func) (i : Ins) (s : State) : Bool := decide ((s.regs.length : Int) = f.regs) && mayB x f i s
def stepped (x : Image) (f : Func) (i : Ins) (s : State) : State := if stepOk x f i s = true then afterS i s else zState
theorem may_room {x : Image} {f : Func} {i : Ins} {s : State} (h : mayB x f i s = true) (ho : i.op = 3 ∨ i.op = 4) : i.a < (s.regs.length : Int) := by
  unfold mayB at h
  rcases ho with ho | ho <;> (rw [ho] at h; simp [room] at h; omega)
def stepI.T1 : Bool × List (List Nat × List Nat) := (true, [([], []), ([0], [0]), ([1], [1]), ([], []), ([3], [3]), ([4], [4]), ([5], [5]), ([2, 6], [2, 6]), ([7], [7]), ([8], [8]), ([8], [8]), ([8], [8]), ([9, 10, 11, 8, 8], [8, 9, 10, 11]), ([12, 8], [8, 12]), ([8, 13], [8, 13])])
def stepI.B1 : List Nat := [0, 1, 3, 0, 8, 24, 56, 127, 255, 511, 511, 511, 4095, 8191, 16383]
theorem stepI.tab1 : rtab .any (opsOf Try.f61 1) = stepI.T1 := by kernel_rfl
theorem stepI.bits1 : waitsOk stepI.T1.2 stepI.B1 = true := by kernel_rfl
set_option maxHeartbeats 8000000 in
set_option maxRecDepth 100000 in
theorem cStepped (x : Image) (j : Nat) (s : State) (i : Ins) (cs : List Value) (gx : Nat) (fa : Addr) (c0 : Nat) (A1 : Option Addr) (c1 : Nat) (w : World) (hk : kStateI.K w s cs) (hl : s.regs.length ≤ 1048576) (hx0 : w.cell? ⟨gx, 0, none⟩ = some (.slice (some fa) x.funcs.length c0)) (hx1 : w.cell? ⟨gx, 1, none⟩ = some (.slice A1 x.consts.length c1)) (g0 : kFuncI.C w (some fa) x.funcs.length x.funcs) (hj : j < x.funcs.length) (hx : x.funcs.length ≤ 1048576) (hf : (el zFunc x.funcs j).caps.length ≤ 1048576) (ho : 1 ≤ i.op ∧ i.op ≤ 19) (ha : 0 ≤ i.a ∧ i.a ≤ 300) (hb : 0 ≤ i.b ∧ i.b ≤ 300) :
    Calls Try.prog 61 #[.agg ⟨cs⟩, .pointer (some ⟨gx, 0, none⟩), .pointer (some (fa.add (j * 5))), .agg #[.int .i64 i.op, .int .i64 i.a, .int .i64 i.b]] w fun e w' => ∃ ds, e = .returned (.tuple #[.agg ⟨ds⟩, .bool (stepOk x (el zFunc x.funcs j) i s)]) ∧ kStateI.M w' w.heap.size (fun _ => True) (stepped x (el zFunc x.funcs j) i s) ds ∧ Below w.heap.size w w' := by
  obtain ⟨AR, cR, rfl, hcR, hr⟩ := kStateI_open hk
  have hu := Try.underlying31; have hu1 := Try.underlying26; have hu2 := Try.underlying73; have hu3 := Try.underlying76
  obtain ⟨fa0, A2, c2, A3, c3, A4, c4, hfa, x0, x1, x2, x3, x4, hcap, hcode, hhan⟩ := func_at5 g0 j hj
  cases hfa
  have HW := Aside0.mk (fun (gs : Nat) (W : World) (hB : Below w.heap.size w W) (h0 : W.cell? ⟨gs, 0, none⟩ = some (.int .i64 s.acc)) (h1 : W.cell? ⟨gs, 1, none⟩ = some (.slice AR s.regs.length cR)) => cWants x j s gs gx fa c0 A1 c1 AR cR W h0 h1 (Kd.C_below hr hB) hl (pw_cell_below hB hx0) (pw_cell_below hB hx1) (Kd.C_below g0 hB) hj hx hf i ho ha hb)
  obtain ⟨f, hfe⟩ : ∃ f, f = el zFunc x.funcs j := ⟨_, rfl⟩
  rw [← hfe] at x1 HW ⊢
  have HK := Aside0.mk hk; have FR := Aside0.mk x1
  clear hfe g0 hx0 hx1 hr hcap hcode hhan x0 x1 x2 x3 x4 hk hf
  have M0 := Aside0.mk ((((Mem.start w).allocAt rfl #[.int .i64 s.acc, .slice AR s.regs.length cR] 31).allocAt (g := w.heap.size + 1) (by simp) #[.int .i64 i.op, .int .i64 i.a, .int .i64 i.b] 76).allocAt (g := w.heap.size + 2) (by simp) #[.int .i64 0, .slice none 0 0] 31)
  go_enter Try.func61, Try.ntmps61
  go_upto_region 1 with fail
  generalize ((w.alloc (.cells #[.int .i64 s.acc, .slice AR s.regs.length cR] 31)).alloc (.cells #[.int .i64 i.op, .int .i64 i.a, .int .i64 i.b] 76)).alloc (.cells #[.int .i64 0, .slice none 0 0] 31) = wq at M0 ⊢
  obtain ⟨L, HL, ML⟩ := Mem.hide M0
  have EB := Aside0.mk (show Hold.box w.heap.size #[.int .i64 s.acc, .slice AR s.regs.length cR] 31 ∈ L from HL.out ▸ (.tail _ (.tail _ (.head _))))
  have EI := Aside0.mk (show Hold.box (w.heap.size + 1) #[.int .i64 i.op, .int .i64 i.a, .int .i64 i.b] 76 ∈ L from HL.out ▸ (.tail _ (.head _)))
  have MD := Aside0.mk ML.out.drew
  clear M0 ML
  by_cases hlen : (s.regs.length : Int) = f.regs
  rotate_left
  · have HOK := Aside0.mk (show stepOk x f i s = false from by unfold stepOk; rw [decide_eq_false hlen]; rfl)
    have hne : ((s.regs.length : Int) != f.regs) = true := by simpa using hlen
    refine sz 15 (fun W => W.cell? ⟨w.heap.size, 1, none⟩ = some (.slice AR s.regs.length cR) ∧ W.cell? ⟨(fa.add (j * 5)).block, (fa.add (j * 5)).off + 1, none⟩ = some (.int .i64 f.regs) ∧ W.cell? ⟨w.heap.size + 1, 0, none⟩ = some (.int .i64 i.op) ∧ W.cell? ⟨w.heap.size + 1, 1, none⟩ = some (.int .i64 i.a) ∧ W.cell? ⟨w.heap.size + 1, 2, none⟩ = some (.int .i64 i.b)) [] stepI.tab1 stepI.bits1 ⟨(MD.out.box EB.out 1).trans rfl, pw_cell_below MD.out.below FR.out, (MD.out.box EI.out 0).trans rfl, (MD.out.box EI.out 1).trans rfl, (MD.out.box EI.out 2).trans rfl⟩ (fun HT_ HW_ hHeld => ?_)
    generalize wq.drew = wd at MD hHeld ⊢
    refine pz 0 11 ?_; refine pz 3 14 ?_; refine pz 4 15 ?_; refine pz 5 16 ?_; refine tz 1 12 ?_; refine pz 2 13 ?_; refine tz 6 17 ?_; refine pz 7 18 ?_; refine pz 8 19 ?_; refine oz 9 20 ?_; refine oz 10 21 ?_; refine oz 11 22 ?_; refine oz 12 23 ?_; refine oz 13 24 ?_; refine pz 14 25 ?_
    refine dz ?_
    have hl2 := HL.out; subst hl2; clear HL EB EI
    have b0 := MD.out.box (.head _); have b1 := MD.out.free (.head _)
    have M8 := Aside0.mk (Mem.set (A := []) (Mem.set (A := []) MD.out 0 (.int .i64 0) rfl) 1 (.slice none 0 0) rfl)
    go_wp2
    refine bodyPost_ret (results_ct rfl _ _ (w.heap.size + 2) 31 #[.int .i64 0, .slice none 0 0] (0, 0) _ rfl (M8.out.blk (.head _)) hu rfl (by kernel_rfl)) rfl ?_
    have HS := Aside0.mk (show stepped x f i s = zState from by unfold stepped; rw [if_neg (by rw [HOK.out]; decide)])
    refine ⟨_, congrArg Ending.returned (by rw [HOK.out]; rfl), ?_, M8.out.below⟩
    rw [HS.out]
    exact kStateI_mkM _ _ _ zState (Kd.R_nil _ _ _ _ _)
  have hne : ((s.regs.length : Int) != f.regs) = false := by simpa using hlen
  rcases Bool.eq_false_or_eq_true (mayB x f i s) with hmb | hmb
  rotate_left
  · have HOK := Aside0.mk (show stepOk x f i s = false from by unfold stepOk; rw [hmb]; simp)
    have HMB := Aside0.mk hmb; clear hmb
    refine sz 15 (fun W => W.cell? ⟨w.heap.size, 1, none⟩ = some (.slice AR s.regs.length cR) ∧ W.cell? ⟨(fa.add (j * 5)).block, (fa.add (j * 5)).off + 1, none⟩ = some (.int .i64 f.regs) ∧ W.cell? ⟨w.heap.size + 1, 0, none⟩ = some (.int .i64 i.op) ∧ W.cell? ⟨w.heap.size + 1, 1, none⟩ = some (.int .i64 i.a) ∧ W.cell? ⟨w.heap.size + 1, 2, none⟩ = some (.int .i64 i.b)) [] stepI.tab1 stepI.bits1 ⟨(MD.out.box EB.out 1).trans rfl, pw_cell_below MD.out.below FR.out, (MD.out.box EI.out 0).trans rfl, (MD.out.box EI.out 1).trans rfl, (MD.out.box EI.out 2).trans rfl⟩ (fun HT_ HW_ hHeld => ?_)
    generalize wq.drew = wd at MD hHeld ⊢
    refine pz 0 11 ?_; refine pz 3 14 ?_; refine pz 4 15 ?_; refine pz 5 16 ?_; refine tz 1 12 ?_; refine pz 2 13 ?_; refine tz 6 17 ?_; refine pz 7 18 ?_; refine pz 8 19 ?_; refine pz 9 20 ?_; refine pz 10 21 ?_; refine tz 11 22 ?_
    refine ez 12 (some 23) (fun K hK => ?_)
    refine gz Try.func101 #[.pointer (some ⟨w.heap.size, 0, none⟩), .pointer (some ⟨gx, 0, none⟩), .pointer (some (fa.add (j * 5))), .agg #[.int .i64 i.op, .int .i64 i.a, .int .i64 i.b]] ?_
    have C := HW.out w.heap.size wd MD.out.below ((MD.out.box EB.out 0).trans rfl) ((MD.out.box EB.out 1).trans rfl)
    rw [HMB.out] at C
    refine C.mono ?_; clear C; rintro e w5 ⟨rfl, hb5⟩
    have M5 := Aside0.mk (MD.out.step hb5); clear hb5
    refine ⟨_, rfl, ?_⟩
    refine hK.out _ _ ⟨(M5.out.box EB.out 1).trans rfl, pw_cell_below M5.out.below FR.out, (M5.out.box EI.out 0).trans rfl, (M5.out.box EI.out 1).trans rfl, (M5.out.box EI.out 2).trans rfl⟩ (fun hHeld => ?_); clear hK K; refine kz (some 23) ?_
    refine pz 13 24 ?_; refine pz 14 25 ?_
    refine dz ?_
    have hl2 := HL.out; subst hl2; clear HL EB EI
    have b0 := M5.out.box (.head _); have b1 := M5.out.free (.head _)
    have M8 := Aside0.mk (Mem.set (A := []) (Mem.set (A := []) M5.out 0 (.int .i64 0) rfl) 1 (.slice none 0 0) rfl)
    go_wp2
    refine bodyPost_ret (results_ct rfl _ _ (w.heap.size + 2) 31 #[.int .i64 0, .slice none 0 0] (0, 0) _ rfl (M8.out.blk (.head _)) hu rfl (by kernel_rfl)) rfl ?_
    have HS := Aside0.mk (show stepped x f i s = zState from by unfold stepped; rw [if_neg (by rw [HOK.out]; decide)])
    refine ⟨_, congrArg Ending.returned (by rw [HOK.out]; rfl), ?_, M8.out.below⟩
    rw [HS.out]
    exact kStateI_mkM _ _ _ zState (Kd.R_nil _ _ _ _ _)
  have HOK := Aside0.mk (show stepOk x f i s = true from by unfold stepOk; rw [hmb, decide_eq_true hlen]; rfl)
  have HMB := Aside0.mk hmb; clear hmb hlen
  refine sz 15 (fun W => W.cell? ⟨w.heap.size, 1, none⟩ = some (.slice AR s.regs.length cR) ∧ W.cell? ⟨(fa.add (j * 5)).block, (fa.add (j * 5)).off + 1, none⟩ = some (.int .i64 f.regs) ∧ W.cell? ⟨w.heap.size + 1, 0, none⟩ = some (.int .i64 i.op) ∧ W.cell? ⟨w.heap.size + 1, 1, none⟩ = some (.int .i64 i.a) ∧ W.cell? ⟨w.heap.size + 1, 2, none⟩ = some (.int .i64 i.b)) [] stepI.tab1 stepI.bits1 ⟨(MD.out.box EB.out 1).trans rfl, pw_cell_below MD.out.below FR.out, (MD.out.box EI.out 0).trans rfl, (MD.out.box EI.out 1).trans rfl, (MD.out.box EI.out 2).trans rfl⟩ (fun HT_ HW_ hHeld => ?_)
  generalize wq.drew = wd at MD hHeld ⊢
  refine pz 0 11 ?_; refine pz 3 14 ?_; refine pz 4 15 ?_; refine pz 5 16 ?_; refine tz 1 12 ?_; refine pz 2 13 ?_; refine tz 6 17 ?_; refine pz 7 18 ?_; refine pz 8 19 ?_; refine pz 9 20 ?_; refine pz 10 21 ?_; refine tz 11 22 ?_
  refine ez 12 (some 23) (fun K hK => ?_)
  refine gz Try.func101 #[.pointer (some ⟨w.heap.size, 0, none⟩), .pointer (some ⟨gx, 0, none⟩), .pointer (some (fa.add (j * 5))), .agg #[.int .i64 i.op, .int .i64 i.a, .int .i64 i.b]] ?_
  have C := HW.out w.heap.size wd MD.out.below ((MD.out.box EB.out 0).trans rfl) ((MD.out.box EB.out 1).trans rfl)
  rw [HMB.out] at C
  refine C.mono ?_; clear C; rintro e w5 ⟨rfl, hb5⟩
  have M5 := Aside0.mk (MD.out.step hb5); clear hb5
  refine ⟨_, rfl, ?_⟩
  refine hK.out _ _ ⟨(M5.out.box EB.out 1).trans rfl, pw_cell_below M5.out.below FR.out, (M5.out.box EI.out 0).trans rfl, (M5.out.box EI.out 1).trans rfl, (M5.out.box EI.out 2).trans rfl⟩ (fun hHeld => ?_); clear hK K; refine kz (some 23) ?_
  refine pz 13 24 ?_; refine pz 14 25 ?_
  refine dz ?_
  have hl2 := HL.out; subst hl2; clear HL EB EI
  have HN5 := Aside0.mk (M5.out.fits _ (.head _)).2
  have z0 := M5.out.box (.tail _ (.tail _ (.head _))); have z1 := M5.out.box (.tail _ (.head _))
  have HS := Aside0.mk (show stepped x f i s = afterS i s from by unfold stepped; rw [if_pos HOK.out])
  go_wp2_with fail
  refine (cCopy s _ _ (kStateI.K_below M5.out.below HK.out) hl).mono ?_; rintro e w9 ⟨ds, rfl, hm, hb9⟩; obtain ⟨v9, rfl, hr9⟩ := kStateI_openM hm; obtain ⟨X9, y9, rfl⟩ := Kd.R_slice hr9
  have M9 := Aside0.mk (M5.out.push hb9 hm); clear hm hb9 hr9 z0 z1
  have hn9 : w.heap.size + 2 + 1 ≤ w9.heap.size := (M9.out.fits _ (.tail _ (.head _))).2
  have hn5 : w.heap.size + 2 + 1 ≤ w5.heap.size := HN5.out
  obtain ⟨g9, hg9⟩ : ∃ g : Nat, g = w9.heap.size := ⟨_, rfl⟩
  have hd1 : ¬ (w.heap.size + 1 + 1 = g9) := by omega
  have hd2 : ¬ (g9 = w.heap.size + 1 + 1) := by omega
  have hd3 : ¬ (w.heap.size + 2 = g9) := by omega
  have hd4 : ¬ (g9 = w.heap.size + 2) := by omega
  have M10 := Aside0.mk (M9.out.allocAt hg9 #[.int .i64 s.acc, .slice X9 s.regs.length y9] 31); clear M9
  have z1 := M10.out.box (.tail _ (.tail _ (.tail _ (.head _)))); have z2 := M10.out.box (.tail _ (.tail _ (.head _))); have z3 := M10.out.box (.head _); have f3 := M10.out.free (.head _); have f2 := M10.out.free (.tail _ (.tail _ (.head _)))
  go_upto_region 4 with fail
  rw [← hg9]
  have HG9 := Aside0.mk hg9; clear hg9
  generalize w9.alloc (.cells #[.int .i64 s.acc, .slice X9 s.regs.length y9] 31) = w10 at M10 z1 z2 z3 f2 f3 ⊢
  by_cases h3 : i.op = 3
  · have q3 : (i.op == 3) = true := by simp [h3]
    have HA := Aside0.mk (show afterS i s = ⟨s.acc, s.regs.set i.a.toNat 1⟩ from by unfold afterS givesB; rw [h3]; simp)
    have hlt := may_room HMB.out (by omega)
    obtain ⟨qa, hqa⟩ : ∃ qa : Nat, i.a = qa := ⟨i.a.toNat, by omega⟩
    have hql : qa < s.regs.length := by omega
    have hq0 : (0 : Int) ≤ (qa : Int) := by omega
    have hq1 : (qa : Int) < (s.regs.length : Int) := by omega
    have HV9 := M10.out.val (.tail _ (.head _))
    obtain ⟨v10, hv10, hr10⟩ := kStateI_openM HV9
    cases hv10
    obtain ⟨gq, cq, hgq, hgb, hgl, _⟩ := Kd.R_form hr10 (by omega)
    injection hgq with e1 e2 e3; subst e1; subst e3; clear e2
    obtain ⟨k0, k1⟩ := Kd.R_celln 0 hr10 (qa : Int) (by omega) (by omega)
    rw [Int.toNat_natCast] at k0 k1
    obtain ⟨hp1, hp2⟩ := Kd.R_putg hr10 (qa : Int) 1
    rw [Int.toNat_natCast] at hp1 hp2
    have HP1 := Aside0.mk hp1; have HP2 := Aside0.mk hp2; have HGB := Aside0.mk hgb; have HOKB := Aside0.mk (hr10.1 gq (by simp [Value.ownBlock])); clear hp1 hp2 hgb
    have hd5 : w5.heap.size ≤ gq ∧ gq < w9.heap.size := HOKB.out
    have hg9 := HG9.out
    have hd6 : ¬ (w.heap.size + 1 + 1 = gq) := by omega
    have hd7 : ¬ (gq = w.heap.size + 1 + 1) := by omega
    have hd8 : ¬ (g9 = gq) := by omega
    have hd9 : ¬ (gq = g9) := by omega
    have hwq : w.heap.size ≤ gq := by omega
    clear hg9
    rw [hqa] at M10 z1 HA
    rw [Int.toNat_natCast] at HA
    have M11 := Aside0.mk (Mem.mark (A := [_]) M10.out (below_set M10.out.below hwq) (Kept.setCell (Kept.refl _ _) (p := ⟨gq, qa, none⟩) (.inl HOKB.out) (.int .i64 1)) (kStateI_mkM _ _ _ ⟨s.acc, s.regs.set qa 1⟩ HP1.out))
    go_wp2
    clear M10
    have M12 := Aside0.mk (Mem.set (A := [_, _]) (Mem.set (A := [_, _]) M11.out 0 (.int .i64 s.acc) rfl) 1 (.slice (some ⟨gq, 0, none⟩) s.regs.length y9) rfl)
    refine bodyPost_ret (results_ct rfl _ _ (w.heap.size + 2) 31 #[.int .i64 s.acc, .slice (some ⟨gq, 0, none⟩) s.regs.length y9] (0, 0) _ rfl (M12.out.blk (.tail _ (.tail _ (.head _)))) hu rfl (by kernel_rfl)) rfl ?_
    have HV := M12.out.val (.tail _ (.head _))
    refine ⟨_, congrArg Ending.returned (by rw [HOK.out]; rfl), ?_, M12.out.below⟩
    rw [HS.out, HA.out]
    obtain ⟨v11, hv11, hr11⟩ := kStateI_openM HV
    cases hv11
    exact kStateI_mkM _ _ _ ⟨s.acc, s.regs.set qa 1⟩ (Kd.R_mono (Kd.R_lower hr11 (M12.out.fits _ (.tail _ (.head _))).1) (fun _ _ => trivial))
  by_cases h4 : i.op = 4
  · have q4 : (i.op == 4) = true := by simp [h4]
    have q3 : (i.op == 3) = false := by simp [h4]
    have HA := Aside0.mk (show afterS i s = ⟨s.acc, s.regs.set i.a.toNat 2⟩ from by unfold afterS givesB; rw [h4]; simp)
    have hlt := may_room HMB.out (by omega)
    obtain ⟨qa, hqa⟩ : ∃ qa : Nat, i.a = qa := ⟨i.a.toNat, by omega⟩
    have hql : qa < s.regs.length := by omega
    have hq0 : (0 : Int) ≤ (qa : Int) := by omega
    have hq1 : (qa : Int) < (s.regs.length : Int) := by omega
    have HV9 := M10.out.val (.tail _ (.head _))
    obtain ⟨v10, hv10, hr10⟩ := kStateI_openM HV9
    cases hv10
    obtain ⟨gq, cq, hgq, hgb, hgl, _⟩ := Kd.R_form hr10 (by omega)
    injection hgq with e1 e2 e3; subst e1; subst e3; clear e2
    obtain ⟨k0, k1⟩ := Kd.R_celln 0 hr10 (qa : Int) (by omega) (by omega)
    rw [Int.toNat_natCast] at k0 k1
    obtain ⟨hp1, hp2⟩ := Kd.R_putg hr10 (qa : Int) 2
    rw [Int.toNat_natCast] at hp1 hp2
    have HP1 := Aside0.mk hp1; have HP2 := Aside0.mk hp2; have HGB := Aside0.mk hgb; have HOKB := Aside0.mk (hr10.1 gq (by simp [Value.ownBlock])); clear hp1 hp2 hgb
    have hd5 : w5.heap.size ≤ gq ∧ gq < w9.heap.size := HOKB.out
    have hg9 := HG9.out
    have hd6 : ¬ (w.heap.size + 1 + 1 = gq) := by omega
    have hd7 : ¬ (gq = w.heap.size + 1 + 1) := by omega
    have hd8 : ¬ (g9 = gq) := by omega
    have hd9 : ¬ (gq = g9) := by omega
    have hwq : w.heap.size ≤ gq := by omega
    clear hg9
    rw [hqa] at M10 z1 HA
    rw [Int.toNat_natCast] at HA
    have M11 := Aside0.mk (Mem.mark (A := [_]) M10.out (below_set M10.out.below hwq) (Kept.setCell (Kept.refl _ _) (p := ⟨gq, qa, none⟩) (.inl HOKB.out) (.int .i64 2)) (kStateI_mkM _ _ _ ⟨s.acc, s.regs.set qa 2⟩ HP1.out))
    go_wp2
    clear M10
    have M12 := Aside0.mk (Mem.set (A := [_, _]) (Mem.set (A := [_, _]) M11.out 0 (.int .i64 s.acc) rfl) 1 (.slice (some ⟨gq, 0, none⟩) s.regs.length y9) rfl)
    refine bodyPost_ret (results_ct rfl _ _ (w.heap.size + 2) 31 #[.int .i64 s.acc, .slice (some ⟨gq, 0, none⟩) s.regs.length y9] (0, 0) _ rfl (M12.out.blk (.tail _ (.tail _ (.head _)))) hu rfl (by kernel_rfl)) rfl ?_
    have HV := M12.out.val (.tail _ (.head _))
    refine ⟨_, congrArg Ending.returned (by rw [HOK.out]; rfl), ?_, M12.out.below⟩
    rw [HS.out, HA.out]
    obtain ⟨v11, hv11, hr11⟩ := kStateI_openM HV
    cases hv11
    exact kStateI_mkM _ _ _ ⟨s.acc, s.regs.set qa 2⟩ (Kd.R_mono (Kd.R_lower hr11 (M12.out.fits _ (.tail _ (.head _))).1) (fun _ _ => trivial))
  have q3 : (i.op == 3) = false := by simp [h3]
  have q4 : (i.op == 4) = false := by simp [h4]
  go_wp2_with fail
  refine (impl_gives.calls i.op (givesB i.op) _ (gives_ok i.op)).mono ?_; rintro e w11 ⟨rfl, ⟨⟨n11, rfl⟩⟩⟩
  have M11 := Aside0.mk (M10.out.draw n11); clear M10 z1 z2 z3 f2 f3
  have z2 := M11.out.box (.tail _ (.tail _ (.head _))); have z3 := M11.out.box (.head _); have f3 := M11.out.free (.head _); have f2 := M11.out.free (.tail _ (.tail _ (.head _)))
  rcases Bool.eq_false_or_eq_true (givesB i.op) with hgv | hgv
  · have HA := Aside0.mk (show afterS i s = ⟨1, s.regs⟩ from by unfold afterS; rw [if_pos hgv])
    have M12 := Aside0.mk (Mem.set (A := []) M11.out 0 (.int .i64 1) rfl)
    rw [hgv]
    go_wp2
    have M11 := M12; clear M12
    have M12 := Aside0.mk (Mem.set (A := [_, _]) (Mem.set (A := [_, _]) M11.out 0 (.int .i64 1) rfl) 1 (.slice X9 s.regs.length y9) rfl)
    refine bodyPost_ret (results_ct rfl _ _ (w.heap.size + 2) 31 #[.int .i64 1, .slice X9 s.regs.length y9] (0, 0) _ rfl (M12.out.blk (.tail _ (.tail _ (.head _)))) hu rfl (by kernel_rfl)) rfl ?_
    have HV := M12.out.val (.tail _ (.head _))
    refine ⟨_, congrArg Ending.returned (by rw [HOK.out]; rfl), ?_, M12.out.below⟩
    rw [HS.out, HA.out]
    obtain ⟨v10, hv10, hr10⟩ := kStateI_openM HV
    cases hv10
    exact kStateI_mkM _ _ _ ⟨1, s.regs⟩ (Kd.R_mono (Kd.R_lower hr10 (M12.out.fits _ (.tail _ (.head _))).1) (fun _ _ => trivial))
  · have HA := Aside0.mk (show afterS i s = s from by unfold afterS; rw [if_neg (by rw [hgv]; decide), if_neg h3, if_neg h4])
    rw [hgv]
    go_wp2
    have M12 := Aside0.mk (Mem.set (A := [_, _]) (Mem.set (A := [_, _]) M11.out 0 (.int .i64 s.acc) rfl) 1 (.slice X9 s.regs.length y9) rfl)
    refine bodyPost_ret (results_ct rfl _ _ (w.heap.size + 2) 31 #[.int .i64 s.acc, .slice X9 s.regs.length y9] (0, 0) _ rfl (M12.out.blk (.tail _ (.tail _ (.head _)))) hu rfl (by kernel_rfl)) rfl ?_
    have HV := M12.out.val (.tail _ (.head _))
    refine ⟨_, congrArg Ending.returned (by rw [HOK.out]; rfl), ?_, M12.out.below⟩
    rw [HS.out, HA.out]
    obtain ⟨v10, hv10, hr10⟩ := kStateI_openM HV
    cases hv10
    exact kStateI_mkM _ _ _ s (Kd.R_mono (Kd.R_lower hr10 (M12.out.fits _ (.tail _ (.head _))).1) (fun _ _ => trivial))
end Go.Proofs.Ytcbaokflimdjnaa.Flow
end
section
namespace Go.Proofs.Ytcbaokflimdjnaa.Flow
open Go.RowKit Go.Proofs.YtcbaokflimdjnaaW.PrintWords Go.Proofs.YtcbaokflimdjnaaW.PrintLast Go.Proofs.Ytcbaokflimdjnaa.Steps Go.Proofs.YtcbaokflimdjnaaW.PrintMore Go.Proofs.Ytcbaokflimdjnaa.Law Go.Proofs.Ytcbaokflimdjnaa Go.Proofs.Ytcbaokflimdjnaa.QFnExactVerify Go.Proofs.Ytcbaokflimdjnaa.Num Go.Proofs.Ytcbaokflimdjnaa.PureJoin
set_option linter.unusedVariables false
set_option linter.unusedSimpArgs false
set_option autoImplicit false
def statesS.T2 : Bool × List (List Nat × List Nat) := (true, [([], []), ([0], [0]), ([1], [1]), ([2, 2], [2]), ([], []), ([4], [4]), ([5], [5]), ([6, 6], [6]), ([3, 7], [3, 7]), ([8], [8]), ([9, 0, 1, 2, 3, 4, 5, 6, 7, 8, 9], [9])])
def statesS.B2 : List Nat := [0, 1, 3, 7, 0, 16, 48, 112, 255, 511, 1023]
theorem statesS.tab2 : rtab .any (opsOf Try.f66 2) = statesS.T2 := by kernel_rfl
theorem statesS.bits2 : waitsOk statesS.T2.2 statesS.B2 = true := by kernel_rfl
def statesS.T22 : Bool × List (List Nat × List Nat) := (true, [([], []), ([], []), ([1], [1]), ([], []), ([], []), ([4], [4]), ([3, 5], [3, 5]), ([6], [6]), ([0, 2, 7, 6], [0, 2, 7])])
def statesS.B22 : List Nat := [0, 0, 2, 0, 0, 16, 56, 120, 255]
theorem statesS.tab22 : rtab .any (opsOf Try.f66 22) = statesS.T22 := by kernel_rfl
theorem statesS.bits22 : waitsOk statesS.T22.2 statesS.B22 = true := by kernel_rfl
theorem Run.old {t : TypeId} {cs : Array Value} {d g lo : Nat} {w0 W : World} {r : Fl} {vl vr vt : Value} (h : Run t cs d g lo w0 W r vl vr vt) {b : Nat} {o : Obj} (hb : W.heap[b]? = some o) (h1 : b < lo) (h2 : b < g) : BOk g vl vr vt W b o :=
  ⟨hb, by omega, fun e => by have := Kd.R_base h.L b e.symm; omega, fun e => by have := Kd.R_base h.B b e.symm; omega, fun e => by have := Kd.Q_base h.Q b e.symm; omega⟩
set_option maxHeartbeats 8000000 in
set_option maxRecDepth 100000 in
theorem cStatesS (x : Image) (j : Nat) (ok : FnOk x (el zFunc x.funcs j)) (hj : j < x.funcs.length) (A0 : Option Addr) (c0 : Nat) (A1 : Option Addr) (c1 : Nat) (w : World) (l0 : x.funcs.length ≤ c0) (g0 : kFuncI.C w A0 x.funcs.length x.funcs) :
    Calls Try.prog 66 #[.agg #[.slice A0 x.funcs.length c0, .slice A1 x.consts.length c1], .int .i64 j] w fun e w' => ∃ (g lo : Nat) (vl vr vt : Value) (r : Fl), e = .returned (.pointer (some ⟨g, 0, none⟩)) ∧ Run 89 #[vl, vr, vt, .bool r.bad] r.k g lo w w' r vl vr vt ∧ r.bad = (final x (el zFunc x.funcs j)).bad ∧ (r.bad = false → r = final x (el zFunc x.funcs j)) := by
  have hu := Try.underlying31; have hu1 := Try.underlying48; have hu2 := Try.underlying73; have hu3 := Try.underlying26; have hu4 := Try.underlying49; have hu5 := Try.underlying34; have hu6 := Try.underlying37; have hu7 := Try.underlying89; have hu8 := Try.underlying70; have hu9 := Try.underlying76; have hu10 := Try.underlying107; have hu11 := Try.underlying71
  obtain ⟨fa, A2, c2, A3, c3, A4, c4, hfa, x0, x1, x2, x3, x4, hcap, hcode, hhan⟩ := func_at5 g0 j hj
  cases hfa
  have HMAY := Aside0.mk (fun (s : State) (i : Ins) (AR : Option Addr) (cR : Nat) (W : World) (hB : Below w.heap.size w W) (hr : (Kd.int .i64).C W AR s.regs.length s.regs) (hc : s.regs.length ≤ cR) (hl : s.regs.length ≤ 1048576) (hi : i ∈ (el zFunc x.funcs j).code) => cMayS x j s i (some fa) c0 A1 c1 AR cR W l0 (Kd.C_below g0 hB) hj hr hc hl (by have := ok.fl; omega) (ok.code i hi).1 (ok.code i hi).2.1 (ok.code i hi).2.2 (by have := ok.cl; omega))
  have hj0 : (0 : Int) ≤ (j : Int) := by omega
  have hj1 : (j : Int) < (x.funcs.length : Int) := by omega
  obtain ⟨f, hfe⟩ : ∃ f, f = el zFunc x.funcs j := ⟨_, rfl⟩
  rw [← hfe] at x0 x1 x2 x3 x4 hcode hhan HMAY ok ⊢
  have OK := Aside0.mk ok; have HC := Aside0.mk hcode; have HH := Aside0.mk hhan
  have hkl := ok.kl; have hhl := ok.hl; have hrg := ok.rg; have hpm := ok.pr
  clear hfe g0 hcap hcode hhan ok hj l0
  obtain ⟨n, hn⟩ : ∃ n : Nat, f.code.length = n := ⟨_, rfl⟩
  have HN := Aside0.mk hn
  rw [hn] at x3 hkl
  obtain ⟨nh, hnh⟩ : ∃ nh : Nat, f.handlers.length = nh := ⟨_, rfl⟩
  have HNH := Aside0.mk hnh
  rw [hnh] at x4 hhl
  clear hn hnh
  obtain ⟨R, hR⟩ : ∃ R : Nat, f.regs = R := ⟨f.regs.toNat, by omega⟩
  obtain ⟨pm, hpme⟩ : ∃ pm : Nat, f.params = pm := ⟨f.params.toNat, by omega⟩
  have HRE := Aside0.mk hR; have HPM := Aside0.mk hpme
  have hR40 : R ≤ 40 := by omega
  have hpR : pm ≤ R := by omega
  rw [hpme] at x0; rw [hR] at x1
  clear hR hpme
  have M0 := Aside0.mk ((Mem.start w).allocAt rfl #[.slice (some fa) x.funcs.length c0, .slice A1 x.consts.length c1] 37)
  have p0 := pw_cell_below M0.out.below x0; have p1 := pw_cell_below M0.out.below x1; have p2 := pw_cell_below M0.out.below x2; have p3 := pw_cell_below M0.out.below x3; have p4 := pw_cell_below M0.out.below x4
  have z0 := M0.out.box (.head _)
  clear x0 x1 x2 x3 x4
  have M1 := Aside0.mk (M0.out.allocAt (g := w.heap.size + 1) (by simp) #[.int .i64 (pm : Int), .int .i64 (R : Int), .slice A2 f.caps.length c2, .slice A3 n c3, .slice A4 nh c4] 73)
  have hwq : (World.alloc (World.alloc w (.cells #[.slice (some fa) x.funcs.length c0, .slice A1 x.consts.length c1] 37)) (.cells #[.int .i64 (pm : Int), .int .i64 (R : Int), .slice A2 f.caps.length c2, .slice A3 n c3, .slice A4 nh c4] 73)).heap.size = w.heap.size + 2 := by simp
  go_enter Try.func66, Try.ntmps66
  go_upto_region 2 with fail
  clear z0 p0 p1 p2 p3 p4 M0
  generalize World.alloc (World.alloc w (.cells #[.slice (some fa) x.funcs.length c0, .slice A1 x.consts.length c1] 37)) (.cells #[.int .i64 (pm : Int), .int .i64 (R : Int), .slice A2 f.caps.length c2, .slice A3 n c3, .slice A4 nh c4] 73) = wq at M1 hwq ⊢
  have HWQ := Aside0.mk hwq; clear hwq
  go_cut [6] (fun u wx => ∃ (g : Nat) (vl vr : Value) (W3 : World), u = .pointer (some ⟨g, 0, none⟩) ∧ Aside0 (W3 = wx) ∧ Aside0 (Run 89 #[vl, vr, .slice none 0 0, .bool false] 0 g (w.heap.size + 2) w W3 (blank f) vl vr (.slice none 0 0)) ∧ Aside0 ((w.heap.size + 2) ≤ g) ∧ Aside0 (W3.heap[w.heap.size]? = some (.cells #[.slice (some fa) x.funcs.length c0, .slice A1 x.consts.length c1] 37 (0, 0))) ∧ Aside0 (W3.heap[w.heap.size + 1]? = some (.cells #[.int .i64 (pm : Int), .int .i64 (R : Int), .slice A2 f.caps.length c2, .slice A3 n c3, .slice A4 nh c4] 73 (0, 0))))
  case first =>
    refine sz 11 (fun W => W.cell? ⟨w.heap.size + 1, 3, none⟩ = some (.slice A3 n c3) ∧ W.cell? ⟨w.heap.size + 1, 3, none⟩ = some (.slice A3 n c3)) [] statesS.tab2 statesS.bits2 ⟨(M1.out.drew.box (.head _) 3).trans rfl, (M1.out.drew.box (.head _) 3).trans rfl⟩ (fun HT_ HW_ hHeld => ?_)
    have MD := Aside0.mk M1.out.drew; have HSZD := Aside0.mk (show (w.heap.size + 2) ≤ wq.heap.size from Nat.le_of_eq HWQ.out.symm)
    refine pz 0 20 ?_; refine pz 4 24 ?_; refine tz 1 21 ?_; refine pz 2 22 ?_; refine tz 5 25 ?_; refine pz 6 26 ?_
    refine twz 3 7 (some 23) (some 27) (fun K hK => ?_) (fun K hK => ?_)
    · skip
      refine Kd.R_make_step kStateI (w0 := _) _ 31 (by rfl) (N := 23) rfl 48 (.tmp 22) (.tmp 22) rfl (n : Int) (by rfl) (by rfl) Try.underlying48 (.agg #[.int .i64 0, .slice none 0 0]) 32 (by kernel_rfl) rfl (by decide) (by omega) zState (ok := fun _ => True) (okp := fun _ => True) (kStateI_mkM _ _ _ zState (Kd.R_nil _ _ _ _ _)) (fun _ hk => hk) trivial (by omega) (by omega) (Below.refl _ _) (Nat.le_refl _) ?_
      intro vL m0 ho hb hg_ hnew_; clear hg_ hnew_
      rw [Int.toNat_natCast] at ho
      obtain ⟨AL, yL, hv⟩ := Kd.R_slice ho; rw [List.length_replicate] at hv; subst hv
      have HL := Aside0.mk (Kd.R_lower ho (show (w.heap.size + 2) ≤ _ from HSZD.out))
      have MM0 := Aside0.mk (MD.out.step hb); have HSZ0 := Aside0.mk (Nat.le_trans HSZD.out hb.size)
      clear ho hb
      refine hK.out _ _ ⟨(MM0.out.box (.head _) 3).trans rfl, (MM0.out.box (.head _) 3).trans rfl⟩ (fun hHeld => ?_); clear hK K; refine kz (some 23) ?_
      refine ez 7 (some 27) (fun K hK => ?_)
      refine Kd.R_make_step Kd.bool (w0 := m0) _ 4 (by rfl) (N := 27) rfl 49 (.tmp 26) (.tmp 26) rfl (n : Int) (by rfl) (by rfl) Try.underlying49 (.bool false) 1 (by kernel_rfl) rfl (by decide) (by omega) false (ok := fun _ => True) (okp := fun _ => True) rfl (fun _ hk => hk) trivial (by omega) (by omega) (Below.refl _ _) (Nat.le_refl _) ?_
      intro vB m1 ho hb hg_ hnew_; clear hg_ hnew_
      rw [Int.toNat_natCast] at ho
      obtain ⟨AB, yB, hv⟩ := Kd.R_slice ho; rw [List.length_replicate] at hv; subst hv
      have HB := Aside0.mk (Kd.R_lower ho (show (w.heap.size + 2) ≤ _ from HSZ0.out))
      have MM1 := Aside0.mk (MM0.out.step hb); have HSZ1 := Aside0.mk (Nat.le_trans HSZ0.out hb.size)
      have HL := Aside0.mk (Kd.R_below HL.out hb)
      clear ho hb
      refine hK.out _ _ ⟨(MM1.out.box (.head _) 3).trans rfl, (MM1.out.box (.head _) 3).trans rfl⟩ (fun hHeld => ?_); clear hK K; refine kz (some 27) ?_
      refine pz 8 28 ?_
      refine ez 9 (some 29) (fun K hK => ?_)
      refine box_step ?hg (N := 29) ?hd (cs := #[(.slice AL n yL), (.slice AB n yB), .slice none 0 0, .bool false]) (t := 89) ?hr ?_; (case hd => rfl); (case hg => rfl); (case hr => first | (go_simp; done) | (go_simp; rfl))
      intro g hg m9 hbx hbb
      have M9 := Aside0.mk (MM1.out.step hbb)
      have HSG := Aside0.mk (show (w.heap.size + 2) ≤ g by rw [hg]; exact HSZ1.out)
      have RL := Kd.R_below (Kd.R_bound HL.out) hbb; have RB := Kd.R_below (Kd.R_bound HB.out) hbb
      have RR := Aside0.mk (show Run 89 #[(.slice AL n yL), (.slice AB n yB), .slice none 0 0, .bool false] 0 g (w.heap.size + 2) w m9 (blank f) (.slice AL n yL) (.slice AB n yB) (.slice none 0 0) from ⟨M9.out.below, by omega, by have := HSG.out; omega, hbx, Kd.R_mono (show kStateI.R _ m9 _ _ (.slice AL n yL) (blank f).list by unfold blank; rw [HN.out]; exact RL) (fun k hk => ⟨by have := hk.2.2.1; omega, by simp [Value.ownBlock]⟩), Kd.R_mono (show Kd.bool.R _ m9 _ _ (.slice AB n yB) (blank f).reached by unfold blank; rw [HN.out]; exact RB) (fun k hk => by have := hk.2.2.1; omega), Kd.Q_nil _ _ _ _ _, fun h => absurd h (by decide)⟩)
      clear hg hbx hbb RL RB
      refine hK.out _ _ ⟨(M9.out.box (.head _) 3).trans rfl, (M9.out.box (.head _) 3).trans rfl⟩ (fun hHeld => ?_); clear hK K; refine kz (some 29) ?_
      refine pz 10 6 ?_
      refine dz ?_
      try go_wp2_with fail
      go_meet
      exact ⟨_, _, _, _, rfl, ⟨rfl⟩, RR, HSG, ⟨M9.out.blk (.tail _ (.head _))⟩, ⟨M9.out.blk (.head _)⟩⟩
    · skip
      refine Kd.R_make_step Kd.bool (w0 := _) _ 4 (by rfl) (N := 27) rfl 49 (.tmp 26) (.tmp 26) rfl (n : Int) (by rfl) (by rfl) Try.underlying49 (.bool false) 1 (by kernel_rfl) rfl (by decide) (by omega) false (ok := fun _ => True) (okp := fun _ => True) rfl (fun _ hk => hk) trivial (by omega) (by omega) (Below.refl _ _) (Nat.le_refl _) ?_
      intro vB m0 ho hb hg_ hnew_; clear hg_ hnew_
      rw [Int.toNat_natCast] at ho
      obtain ⟨AB, yB, hv⟩ := Kd.R_slice ho; rw [List.length_replicate] at hv; subst hv
      have HB := Aside0.mk (Kd.R_lower ho (show (w.heap.size + 2) ≤ _ from HSZD.out))
      have MM0 := Aside0.mk (MD.out.step hb); have HSZ0 := Aside0.mk (Nat.le_trans HSZD.out hb.size)
      clear ho hb
      refine hK.out _ _ ⟨(MM0.out.box (.head _) 3).trans rfl, (MM0.out.box (.head _) 3).trans rfl⟩ (fun hHeld => ?_); clear hK K; refine kz (some 27) ?_
      refine ez 3 (some 23) (fun K hK => ?_)
      refine Kd.R_make_step kStateI (w0 := m0) _ 31 (by rfl) (N := 23) rfl 48 (.tmp 22) (.tmp 22) rfl (n : Int) (by rfl) (by rfl) Try.underlying48 (.agg #[.int .i64 0, .slice none 0 0]) 32 (by kernel_rfl) rfl (by decide) (by omega) zState (ok := fun _ => True) (okp := fun _ => True) (kStateI_mkM _ _ _ zState (Kd.R_nil _ _ _ _ _)) (fun _ hk => hk) trivial (by omega) (by omega) (Below.refl _ _) (Nat.le_refl _) ?_
      intro vL m1 ho hb hg_ hnew_; clear hg_ hnew_
      rw [Int.toNat_natCast] at ho
      obtain ⟨AL, yL, hv⟩ := Kd.R_slice ho; rw [List.length_replicate] at hv; subst hv
      have HL := Aside0.mk (Kd.R_lower ho (show (w.heap.size + 2) ≤ _ from HSZ0.out))
      have MM1 := Aside0.mk (MM0.out.step hb); have HSZ1 := Aside0.mk (Nat.le_trans HSZ0.out hb.size)
      have HB := Aside0.mk (Kd.R_below HB.out hb)
      clear ho hb
      refine hK.out _ _ ⟨(MM1.out.box (.head _) 3).trans rfl, (MM1.out.box (.head _) 3).trans rfl⟩ (fun hHeld => ?_); clear hK K; refine kz (some 23) ?_
      refine pz 8 28 ?_
      refine ez 9 (some 29) (fun K hK => ?_)
      refine box_step ?hg (N := 29) ?hd (cs := #[(.slice AL n yL), (.slice AB n yB), .slice none 0 0, .bool false]) (t := 89) ?hr ?_; (case hd => rfl); (case hg => rfl); (case hr => first | (go_simp; done) | (go_simp; rfl))
      intro g hg m9 hbx hbb
      have M9 := Aside0.mk (MM1.out.step hbb)
      have HSG := Aside0.mk (show (w.heap.size + 2) ≤ g by rw [hg]; exact HSZ1.out)
      have RL := Kd.R_below (Kd.R_bound HL.out) hbb; have RB := Kd.R_below (Kd.R_bound HB.out) hbb
      have RR := Aside0.mk (show Run 89 #[(.slice AL n yL), (.slice AB n yB), .slice none 0 0, .bool false] 0 g (w.heap.size + 2) w m9 (blank f) (.slice AL n yL) (.slice AB n yB) (.slice none 0 0) from ⟨M9.out.below, by omega, by have := HSG.out; omega, hbx, Kd.R_mono (show kStateI.R _ m9 _ _ (.slice AL n yL) (blank f).list by unfold blank; rw [HN.out]; exact RL) (fun k hk => ⟨by have := hk.2.2.1; omega, by simp [Value.ownBlock]⟩), Kd.R_mono (show Kd.bool.R _ m9 _ _ (.slice AB n yB) (blank f).reached by unfold blank; rw [HN.out]; exact RB) (fun k hk => by have := hk.2.2.1; omega), Kd.Q_nil _ _ _ _ _, fun h => absurd h (by decide)⟩)
      clear hg hbx hbb RL RB
      refine hK.out _ _ ⟨(M9.out.box (.head _) 3).trans rfl, (M9.out.box (.head _) 3).trans rfl⟩ (fun hHeld => ?_); clear hK K; refine kz (some 29) ?_
      refine pz 10 6 ?_
      refine dz ?_
      try go_wp2_with fail
      go_meet
      exact ⟨_, _, _, _, rfl, ⟨rfl⟩, RR, HSG, ⟨M9.out.blk (.tail _ (.head _))⟩, ⟨M9.out.blk (.head _)⟩⟩
  case rest =>
  clear M1
  obtain ⟨g, vl, vr, W3, rfl, HW3, R3, HSG, K0, K1⟩ := hcut
  have hw3 := HW3.out; subst hw3; clear HW3
  have M3 := Aside0.mk (Mem.start W3)
  have z1 := fun o => blk_cell K1.out o
  go_wp2_with (refine Kd.R_make (Kd.int .i64) _ 3 rfl (N := _) rfl _ _ _ rfl (R : Int) rfl rfl Try.underlying26 (.int .i64 0) 8 (by kernel_rfl) rfl (by decide) (by omega) (0 : Int) (ok := fun _ => True) (okp := fun _ => True) rfl (fun _ hk => hk) trivial (by omega) (by omega) (Below.refl _ _) (Nat.le_refl _) ?_; intro v4 w4 ho hb hg_ hnew_; clear hg_ hnew_; have HO4 := Aside0.mk ho; have HB4 := Aside0.mk hb; clear ho hb; refine Aside0.out ?_)
  refine ⟨?_⟩
  have ho4 := HO4.out
  rw [Int.toNat_natCast] at ho4
  obtain ⟨A4b, y4, hv4⟩ := Kd.R_slice ho4
  rw [List.length_replicate] at hv4; subst hv4
  have M4 := Aside0.mk (M3.out.pushR HB4.out ho4); clear M3 ho4 z1
  obtain ⟨g10, hg10⟩ : ∃ g10 : Nat, g10 = w4.heap.size := ⟨_, rfl⟩
  have M5 := Aside0.mk (M4.out.allocAt hg10 #[.int .i64 0, .slice A4b R y4] 31); clear M4
  go_upto_region 5 with fail
  rw [← hg10]
  have HG10 := Aside0.mk hg10; clear hg10
  generalize w4.alloc (.cells #[.int .i64 0, .slice A4b R y4] 31) = w5 at M5 ⊢
  have HE0 := Aside0.mk (show List.replicate R (0 : Int) = filled R 0 from by unfold filled; simp)
  rw [HE0.out] at M5
  clear HO4 HB4
  generalize hlo4 : W3.heap.size = lo4 at M5
  generalize w4.heap.size = hi4 at M5
  go_loopw [8] (fun v wx => ∃ q : Nat, v = .int .i64 q ∧ q ≤ pm ∧ Aside0 (Mem W3 wx [Hold.box g10 #[.int .i64 0, .slice A4b R y4] 31, Hold.val (Kd.slice 3 (Kd.int .i64)) lo4 hi4 (filled R q) [.slice A4b R y4]])) (fun v _ => pm - (intOf v).toNat)
  case atStart => exact ⟨0, rfl, by omega, M5⟩
  case round =>
  clear M5
  obtain ⟨q, rfl, hq, M6⟩ := hrel
  have K1r := Aside0.mk (blk_below K1.out M6.out.below); have K0r := Aside0.mk (blk_below K0.out M6.out.below)
  have z1 := fun o => blk_cell K1r.out o
  have z0 := M6.out.box (.head _)
  by_cases hlt : q < pm
  · have hle : (q : Int) < (pm : Int) := by omega
    have hr6 := M6.out.row (.tail _ (.head _))
    have hfl := filled_len (R := R) (q := q) (by omega)
    obtain ⟨gq, cq, hgq, hgb, hgl, _⟩ := Kd.R_form hr6 (by omega)
    rw [hfl] at hgq
    injection hgq with e1 e2 e3; subst e1; subst e3; clear e2
    obtain ⟨k0, k1⟩ := Kd.R_celln 0 hr6 (q : Int) (by omega) (by omega)
    rw [Int.toNat_natCast] at k0 k1
    obtain ⟨hp1, hp2⟩ := Kd.R_putg hr6 (q : Int) 1
    rw [Int.toNat_natCast, filled_set (by omega : q < R)] at hp1
    have hok := hr6.1 gq (by simp [Value.ownBlock])
    have hlow : W3.heap.size ≤ gq := by rw [hlo4]; exact hok.1
    have M7 := Aside0.mk (Mem.mark (A := [_]) (y := filled R (q + 1)) M6.out (below_set M6.out.below hlow) (Kept.setCell (Kept.refl _ _) (p := ⟨gq, q, none⟩) (.inl hok) (.int .i64 1)) ⟨_, rfl, hp1⟩)
    have hq0 : (0 : Int) ≤ (q : Int) := by omega
    have hq1 : (q : Int) < (R : Int) := by omega
    clear hr6 hp1 hp2 hok hlow hgb hgl
    clear M6
    go_wp2
    go_roundw
    case measure => simp [intOf]; omega
    case rel => exact ⟨q + 1, by go_num, by omega, M7⟩
  have hle : ¬ (q : Int) < (pm : Int) := by omega
  obtain rfl : pm = q := by omega
  go_wp2_with fail
  clear z0 z1
  have hbg : begin f = ⟨0, filled R pm⟩ := by rw [begin_filled, HRE.out, HPM.out]; rfl
  have HBG := Aside0.mk hbg; clear hbg
  have HIB := Aside0.mk (blank_inv f)
  have R6 := Aside0.mk (R3.out.step M6.out.below)
  have HLW := Aside0.mk (show (w.heap.size + 2) ≤ wr.heap.size from Nat.le_trans (Nat.le_trans HSG.out (Nat.le_of_lt R3.out.lt.1)) M6.out.below.size)
  have S6 := Aside0.mk (show SOk g (w.heap.size + 2) wr (.slice none 0 0) (begin f) [.int .i64 0, .slice A4b R y4] from by
    rw [HBG.out]
    refine kStateI_mkM _ _ _ ⟨0, filled R pm⟩ (Kd.R_lower (Kd.R_mono (M6.out.row (.tail _ (.head _))) (fun k hk => ⟨fun e => ?_, by simp [Value.ownBlock]⟩)) (by rw [← hlo4]; exact Nat.le_trans HSG.out (Nat.le_of_lt R3.out.lt.1)))
    have h1 := R3.out.lt.1
    have h2 := hk.1
    omega)
  have BK0 := Aside0.mk (R6.out.old K0r.out (by omega) (by have := HSG.out; omega)); have BK1 := Aside0.mk (R6.out.old K1r.out (by omega) (by have := HSG.out; omega))
  refine (cFlow 0 g (w.heap.size + 2) w _ (blank f) vl vr (.slice none 0 0) 0 (begin f) [.int .i64 0, .slice A4b R y4] R6.out S6.out (Nat.zero_le _) (by unfold blank; simp) (by rw [HIB.out.lr, HIB.out.ll]) (by rw [HIB.out.ll, HN.out]; omega) (by rw [HBG.out, filled_len hpR]; omega) (fun z hz hzr => by rw [HIB.out.rs z (by rw [HIB.out.ll] at hz; exact hz) hzr]; have := HRE.out; omega) (by omega) HLW.out).mono ?_
  rintro e w7 ⟨vt7, rfl, hR7, _, hB7⟩
  have R7 := Aside0.mk (show Run 89 #[vl, vr, vt7, .bool (start f).bad] 0 g (w.heap.size + 2) w w7 (start f) vl vr vt7 from hR7)
  have D0 := Aside0.mk (hB7 _ _ BK0.out); have D1 := Aside0.mk (hB7 _ _ BK1.out)
  clear hR7 hB7 M6 R6 S6 HLW R3 BK0 BK1 K0 K1 K0r K1r
  have HI0 := Aside0.mk (start_inv (f := f) (by have := HRE.out; have := HPM.out; omega) (by have := HPM.out; omega))
  have HFIN := Aside0.mk (fun (j : Nat) (hd : done (it x f (start f) j)) => final_of (x := x) (f := f) (by have := HRE.out; have := HPM.out; omega) (by have := HPM.out; omega) hd)
  have HFBD := Aside0.mk (fun (j : Nat) (hd : (it x f (start f) j).bad = true) => final_bad (x := x) (f := f) (by have := HRE.out; have := HPM.out; omega) (by have := HPM.out; omega) hd)
  have HK0 := Aside0.mk (show (start f).k = 0 from (come_inv (p := 0) (blank_inv f) (begin_len (f := f) (by have := HRE.out; have := HPM.out; omega) (by have := HPM.out; omega))).2.kk)
  go_upto_region 9 with fail
  go_loopg [9] (meas f.regs.toNat (start f)) (fun kq v wx => ∃ (m : Nat) (vt' : Value), kq = meas f.regs.toNat (it x f (start f) m) ∧ Aside0 (Run 89 #[vl, vr, vt', .bool (it x f (start f) m).bad] (it x f (start f) m).k g (w.heap.size + 2) w wx (it x f (start f) m) vl vr vt') ∧ Aside0 (BOk g vl vr vt' wx w.heap.size (.cells #[.slice (some fa) x.funcs.length c0, .slice A1 x.consts.length c1] 37 (0, 0))) ∧ Aside0 (BOk g vl vr vt' wx (w.heap.size + 1) (.cells #[.int .i64 (pm : Int), .int .i64 (R : Int), .slice A2 f.caps.length c2, .slice A3 n c3, .slice A4 nh c4] 73 (0, 0))))
  case atStart => exact ⟨0, vt7, rfl, ⟨by show Run _ _ (start f).k _ _ _ _ (start f) _ _ _; rw [HK0.out]; exact R7.out⟩, D0, D1⟩
  case round =>
  clear R7 D0 D1
  obtain ⟨m, vt2, hgk, R8, D0, D1⟩ := hrel
  have HI8 := Aside0.mk (it_inv (x := x) (f := f) HI0.out m)
  have HSS := Aside0.mk (fun (h : ¬ done (it x f (start f) m)) => it_succ (x := x) (f := f) (r := start f) (n := m) h)
  have HFM := Aside0.mk (HFIN.out m)
  have HFB := Aside0.mk (HFBD.out (m + 1))
  obtain ⟨rr, hrr⟩ : ∃ rr, rr = it x f (start f) m := ⟨_, rfl⟩
  rw [← hrr] at R8 HI8 HSS HFM hgk
  have HGK := Aside0.mk hgk; have HRR := Aside0.mk hrr; clear hgk hrr
  obtain ⟨AT, yT, hvt, hyT⟩ := Kd.Q_slice R8.out.Q
  rw [List.length_drop] at hvt hyT
  obtain ⟨nq, hnq⟩ : ∃ nq : Nat, rr.queue.length - rr.k = nq := ⟨_, rfl⟩
  rw [hnq] at hvt hyT; subst hvt
  have HNQ := Aside0.mk hnq; clear hnq
  have q2 := (blk_cell R8.out.box 2).trans rfl
  have q3 := (blk_cell R8.out.box 3).trans rfl
  have hql := inv_q HI8.out (by have := HN.out; omega) (by have := HRE.out; omega)
  have FIN := Aside0.mk (show ∀ (hd : done rr), final x f = rr from fun hd => (HFM.out hd).symm)
  have z1 := fun o => blk_cell D1.out.1 o
  by_cases hk : 0 < nq
  rotate_left
  · have hk2 : ¬ (0 : Int) < (nq : Int) := by omega
    have HF := Aside0.mk (FIN.out (.inr (by have := HNQ.out; omega)))
    go_wp2
    go_ret
    first | exact ⟨g, w.heap.size + 2, vl, vr, .slice AT nq yT, rr, rfl, R8.out, congrArg Fl.bad HF.out.symm, fun _ => HF.out.symm⟩ | exact ⟨g, rfl, w.heap.size + 2, vl, vr, .slice AT nq yT, rr, R8.out, congrArg Fl.bad HF.out.symm, fun _ => HF.out.symm⟩
  have hk2 : (0 : Int) < (nq : Int) := by omega
  rcases Bool.eq_false_or_eq_true rr.bad with hbd | hbd
  · have HF := Aside0.mk (FIN.out (.inl hbd))
    have HBD := Aside0.mk hbd
    rw [hbd] at q3
    clear hbd
    go_wp2
    go_ret
    first | exact ⟨g, w.heap.size + 2, vl, vr, .slice AT nq yT, rr, rfl, R8.out, congrArg Fl.bad HF.out.symm, fun _ => HF.out.symm⟩ | exact ⟨g, rfl, w.heap.size + 2, vl, vr, .slice AT nq yT, rr, R8.out, congrArg Fl.bad HF.out.symm, fun _ => HF.out.symm⟩
  have HBD := Aside0.mk hbd
  rw [hbd] at q3
  clear hbd
  have hkl2 : rr.k < rr.queue.length := by have := HNQ.out; omega
  obtain ⟨gt, ot, cq, hqf, _, _, _⟩ := Kd.Q_form R8.out.Q (by rw [List.length_drop]; have := HNQ.out; omega)
  injection hqf with e1 e2 e3; subst e1; subst e3; clear e2
  obtain ⟨h1, h2, h3⟩ := HI8.out.qs _ (el_mem 0 hkl2)
  obtain ⟨pp, hpp⟩ : ∃ pp : Nat, el 0 rr.queue rr.k = pp := ⟨(el 0 rr.queue rr.k).toNat, by omega⟩
  rw [hpp] at h2 h3
  rw [Int.toNat_natCast] at h2 h3
  have hq0 := (Kd.Q_cell 0 R8.out.Q 0 (by omega) (by omega)).1
  have hqv : rdOf (0 : Int) (rr.queue.drop rr.k) 0 = pp := by
    rw [← hpp]
    unfold rdOf el
    rw [List.getD_eq_getElem?_getD, List.getD_eq_getElem?_getD, List.getElem?_drop]
    rfl
  rw [hqv] at hq0
  have hqc : wr.cell? ⟨gt, ot, none⟩ = some (.int .i64 (pp : Int)) := hq0
  clear hq0 hqv
  have H2 := Aside0.mk h2; have H3 := Aside0.mk h3; have HPP := Aside0.mk hpp
  clear h1 h3 hpp
  have hn1 : (1 : Int) ≤ (nq : Int) := by omega
  have hn2 : (nq : Int) ≤ (yT : Int) := by omega
  go_upto_region 11 with fail
  have f2 := blk_frozen R8.out.box 2
  go_cut [9] (fun v wx => ∃ (vt3 : Value) (W9 : World), v = .int .i64 pp ∧ Aside0 (W9 = wx) ∧ Aside0 (Run 89 #[vl, vr, vt3, .bool false] (rr.k + 1) g (w.heap.size + 2) w wx rr vl vr vt3) ∧ Aside0 (BOk g vl vr vt3 wx w.heap.size (.cells #[.slice (some fa) x.funcs.length c0, .slice A1 x.consts.length c1] 37 (0, 0))) ∧ Aside0 (BOk g vl vr vt3 wx (w.heap.size + 1) (.cells #[.int .i64 (pm : Int), .int .i64 (R : Int), .slice A2 f.caps.length c2, .slice A3 n c3, .slice A4 nh c4] 73 (0, 0))))
  case first =>
    by_cases hy1 : yT = 1
    · subst hy1
      obtain rfl : nq = 1 := by omega
      go_wp2
      go_meet
      exact ⟨.slice (some ⟨gt, ot, none⟩) 0 0, _, rfl, ⟨rfl⟩, ⟨R8.out.pop (cs' := #[vl, vr, .slice (some ⟨gt, ot, none⟩) 0 0, .bool false]) hkl2 (by have := HNQ.out; omega) (ot2 := ot) rfl 2 (by first | (rw [HBD.out]; done) | (rw [HBD.out]; rfl))⟩, ⟨D0.out.pop 2⟩, ⟨D1.out.pop 2⟩⟩
    · have hy2 : ¬ ((yT : Int) = 1) := by omega
      go_wp2
      go_meet
      exact ⟨_, _, rfl, ⟨rfl⟩, ⟨R8.out.pop hkl2 (by have := HNQ.out; omega) (ot2 := ot + 1) (if_neg hy1).symm 2 (by rw [HBD.out]; rfl)⟩, ⟨D0.out.pop 2⟩, ⟨D1.out.pop 2⟩⟩
  case rest =>
  clear q2 q3 f2 z1 hqc R8 D0 D1
  obtain ⟨vt3, W9, rfl, HW9, R9, D0, D1⟩ := hcut
  have hw9 := HW9.out; subst hw9; clear HW9
  have HP0 := Aside0.mk (HI8.out.pop hkl2)
  obtain ⟨r0, hr0⟩ : ∃ r0 : Fl, r0 = { rr with k := rr.k + 1 } := ⟨_, rfl⟩
  rw [← hr0] at HP0
  obtain ⟨s, hse⟩ : ∃ s, s = el zState rr.list pp := ⟨_, rfl⟩
  obtain ⟨i, hie⟩ : ∃ i, i = el zIns f.code pp := ⟨_, rfl⟩
  have HIM := Aside0.mk (show i ∈ f.code by rw [hie]; exact el_mem zIns H2.out)
  have HIB := Aside0.mk (show (1 ≤ i.op ∧ i.op ≤ 19) ∧ (0 ≤ i.a ∧ i.a ≤ 300) ∧ (0 ≤ i.b ∧ i.b ≤ 300) from OK.out.code i HIM.out)
  have HLS := Aside0.mk (show s.regs.length = f.regs.toNat by rw [hse]; exact HI8.out.rs pp H2.out H3.out)
  have hls : s.regs.length ≤ 1048576 := by have := HLS.out; have := HRE.out; omega
  have HST := Aside0.mk (show it x f (start f) (m + 1) = stepP x f r0 pp from by
    rw [HSS.out (fun hd => by rcases hd with hd | hd; (rw [HBD.out] at hd; cases hd); omega), step_eq, HPP.out, Int.toNat_natCast, hr0])
  have HSK := Aside0.mk (show (stepP x f r0 pp).k = rr.k + 1 from by
    have h := (step_inv (x := x) (f := f) HI8.out hkl2).2.kk
    rw [step_eq, HPP.out, Int.toNat_natCast, ← hr0] at h
    rw [h, hr0])
  have HSM := Aside0.mk (show meas f.regs.toNat (stepP x f r0 pp) < meas f.regs.toNat rr from by
    have h := step_meas (x := x) (f := f) HI8.out hkl2
    rw [step_eq, HPP.out, Int.toNat_natCast, ← hr0] at h
    exact h)
  have R10 := Aside0.mk (show Run 89 #[vl, vr, vt3, .bool false] (rr.k + 1) g (w.heap.size + 2) w W9 r0 vl vr vt3 from R9.out.as (by rw [hr0]) (by rw [hr0]) (by rw [hr0]))
  have HLL := Aside0.mk (show rr.list.length = n by rw [HI8.out.ll, HN.out])
  obtain ⟨gl, cl, hgl, hglo, hgll, _⟩ := Kd.R_form R9.out.L (by rw [HLL.out]; omega)
  have hppn : pp < n := by have := H2.out; have := HN.out; omega
  obtain ⟨c, hcl, hcM, hcc, hcf⟩ := Kd.R_elem (by have h := R9.out.L; rw [hgl] at h; exact h) zState (pp : Int) (by omega) (by rw [HLL.out]; omega)
  rw [Int.toNat_natCast, show rr.list.getD pp zState = s from hse.symm] at hcM
  obtain ⟨va, rfl, hra⟩ := kStateI_openM hcM
  obtain ⟨AS, yS, rfl⟩ := Kd.R_slice hra
  have S9 := Aside0.mk (show SOk g (w.heap.size + 2) W9 vt3 s [.int .i64 s.acc, .slice AS s.regs.length yS] from kStateI.M_mono (fun k hk => hk.1) hcM)
  have e0 : W9.cell? ⟨gl, pp * 2, none⟩ = some (.int .i64 s.acc) := hcc 0 _ rfl
  have e1 : W9.cell? ⟨gl, pp * 2 + 1, none⟩ = some (.slice AS s.regs.length yS) := hcc 1 _ rfl
  have q0 := (blk_cell R9.out.box 0).trans rfl
  rw [hgl, HLL.out] at q0
  have HGL := Aside0.mk hgl
  have HS := Aside0.mk hse; have HI := Aside0.mk hie; have HR0 := Aside0.mk hr0
  have hb4 : ∀ (b : Nat) (v : Value), W9.heap.size ≤ b → (∀ k, v.ownBlock = some k → k < W9.heap.size) → some b ≠ v.ownBlock := fun b v hbb h e => by have := h _ e.symm; omega
  have HNEW := Aside0.mk (show ∀ (W : World) (b : Nat) (o : Obj), W.heap[b]? = some o → W9.heap.size ≤ b → BOk g vl vr vt3 W b o from fun W b o hx hle => ⟨hx, by have := R9.out.lt.1; omega, hb4 b vl hle (Kd.R_lt R9.out.L), hb4 b vr hle (Kd.R_lt R9.out.B), hb4 b vt3 hle (Kd.Q_lt R9.out.Q)⟩)
  clear hcl hcM hcc hcf hra hb4 hgll hgl hse hie hr0 hglo
  have hp0 : (0 : Int) ≤ (pp : Int) := by omega
  have hp1 : (pp : Int) < (n : Int) := by omega
  obtain ⟨b10, hb10⟩ : ∃ b : Nat, b = W9.heap.size := ⟨_, rfl⟩
  have M1 := Aside0.mk ((Mem.start W9).allocAt hb10 #[.int .i64 s.acc, .slice AS s.regs.length yS] 31)
  go_upto_region 13 with fail
  rw [← hb10]
  clear q0 e0 e1
  generalize hwa : W9.alloc (.cells #[.int .i64 s.acc, .slice AS s.regs.length yS] 31) = wa at M1 ⊢
  clear hwa
  have hfa : b10 + 1 ≤ wa.heap.size := (M1.out.fits _ (.head _)).2
  have z1 := fun o => blk_cell (D1.out.step M1.out.below).1 o
  obtain ⟨ka, hka, kK, k0, k1, k2⟩ := Ins_at (Kd.C_below HC.out.2 (R9.out.step M1.out.below).below) pp H2.out
  cases hka
  clear kK
  rw [← HI.out] at k0 k1 k2
  obtain ⟨b11, hb11⟩ : ∃ b : Nat, b = wa.heap.size := ⟨_, rfl⟩
  have M2 := Aside0.mk (M1.out.allocAt hb11 #[.int .i64 i.op, .int .i64 i.a, .int .i64 i.b] 76)
  go_upto_region 14 with fail
  rw [← hb11]
  clear z1 k0 k1 k2
  generalize hwb : wa.alloc (.cells #[.int .i64 i.op, .int .i64 i.a, .int .i64 i.b] 76) = wb at M2 ⊢
  clear hwb M1
  have HB11 := Aside0.mk (show b10 + 1 ≤ b11 ∧ b10 = W9.heap.size from ⟨by rw [hb11]; exact hfa, hb10⟩)
  clear hfa
  clear hb10 hb11
  have z0 := fun o => blk_cell (D0.out.step M2.out.below).1 o
  have z10 := M2.out.box (.tail _ (.head _)); have z11 := M2.out.box (.head _)
  go_wp2_with fail
  obtain ⟨cAS, cyS, ce, hcs1, hcs2⟩ := kStateI_open (S9.out.step M2.out.below).K
  injection ce with ce1 ce2; injection ce2 with ce3 _; injection ce3 with ce4 ce5 ce6; subst ce4; subst ce6; clear ce1 ce5
  refine (HMAY.out s i AS yS _ (R9.out.step M2.out.below).below hcs2 hcs1 hls HIM.out).mono ?_; rintro e w11 ⟨rfl, hb11⟩
  have M3 := Aside0.mk (M2.out.step hb11)
  have RM := Aside0.mk (R10.out.step M3.out.below); have SM := Aside0.mk (S9.out.step M3.out.below)
  have E0 := Aside0.mk (D0.out.step M3.out.below); have E1 := Aside0.mk (D1.out.step M3.out.below)
  have E10 := Aside0.mk (HNEW.out _ b10 _ (M3.out.blk (.tail _ (.head _))) (by have := HB11.out.2; omega)); have E11 := Aside0.mk (HNEW.out _ b11 _ (M3.out.blk (.head _)) (by have := HB11.out; omega))
  clear hb11 z0 z10 z11 hcs1 hcs2 M2 R10 D0 D1 S9 R9
  have HLOW := Aside0.mk (show (w.heap.size + 2) ≤ w11.heap.size from RM.out.low (by rw [HP0.out.ll]; omega))
  clear M3
  rcases Bool.eq_false_or_eq_true (mayB x f i s) with hmb | hmb
  rotate_left
  · rw [hmb]
    have HF := Aside0.mk (show (final x f).bad = true from HFB.out (by rw [HST.out]; unfold stepP; rw [show r0.list = rr.list by rw [HR0.out], ← HS.out, ← HI.out, if_neg (by rw [hmb]; decide)]))
    clear hmb
    have q3 := (blk_cell RM.out.box 3).trans rfl; have f3 := blk_frozen RM.out.box 3
    have RF := Aside0.mk ((RM.out.set 3 (.bool true) rfl).as (r2 := { r0 with bad := true }) rfl rfl rfl)
    have hk0 : r0.k = rr.k + 1 := by rw [HR0.out]
    have HK0 := Aside0.mk hk0; clear hk0
    have RG := Aside0.mk (show Run _ _ ({ r0 with bad := true } : Fl).k _ _ _ _ _ _ _ _ from HK0.out.symm ▸ RF.out)
    go_wp2
    go_ret
    first | exact ⟨g, (w.heap.size + 2), vl, vr, vt3, { r0 with bad := true }, rfl, RG.out, HF.out.symm, fun h => by cases h⟩ | exact ⟨g, rfl, (w.heap.size + 2), vl, vr, vt3, { r0 with bad := true }, RG.out, HF.out.symm, fun h => by cases h⟩
  rw [hmb]
  have HMB := Aside0.mk hmb; clear hmb
  have HSP := Aside0.mk (show stepP x f r0 pp = next (jump (handsTo f.handlers (pp : Int) s r0 nh) i (afterS i s)) i pp (afterS i s) from by
    unfold stepP
    rw [show r0.list = rr.list by rw [HR0.out], ← HS.out, ← HI.out, if_pos HMB.out, HNH.out])
  have hbr0 : r0.bad = false := by rw [HR0.out]; exact HBD.out
  have RM2 := Aside0.mk (show Run 89 #[vl, vr, vt3, .bool r0.bad] (rr.k + 1) g (w.heap.size + 2) w w11 r0 vl vr vt3 from by rw [hbr0]; exact RM.out)
  clear hbr0 RM
  go_upto_region 18 with fail
  go_loopw [12] (fun v wx => ∃ (q : Nat) (vt' : Value), v = .int .i64 q ∧ q ≤ nh ∧ Aside0 (Run 89 #[vl, vr, vt', .bool (handsTo f.handlers (pp : Int) s r0 q).bad] (rr.k + 1) g (w.heap.size + 2) w wx (handsTo f.handlers (pp : Int) s r0 q) vl vr vt') ∧ Aside0 (SOk g (w.heap.size + 2) wx vt' s [.int .i64 s.acc, .slice AS s.regs.length yS]) ∧ Aside0 (BOk g vl vr vt' wx w.heap.size (.cells #[.slice (some fa) x.funcs.length c0, .slice A1 x.consts.length c1] 37 (0, 0))) ∧ Aside0 (BOk g vl vr vt' wx (w.heap.size + 1) (.cells #[.int .i64 (pm : Int), .int .i64 (R : Int), .slice A2 f.caps.length c2, .slice (some ka) n c3, .slice A4 nh c4] 73 (0, 0))) ∧ Aside0 (BOk g vl vr vt' wx b10 (.cells #[.int .i64 s.acc, .slice AS s.regs.length yS] 31 (0, 0))) ∧ Aside0 (BOk g vl vr vt' wx b11 (.cells #[.int .i64 i.op, .int .i64 i.a, .int .i64 i.b] 76 (0, 0)))) (fun v _ => nh - (intOf v).toNat)
  case atStart => exact ⟨0, vt3, rfl, by omega, RM2, SM, E0, E1, E10, E11⟩
  case round =>
  clear RM2 SM E0 E1 E10 E11 HLOW
  obtain ⟨q, vt4, rfl, hq, R11, S11, E0, E1, E10, E11⟩ := hrel
  have HI1 := Aside0.mk (hands_inv (hs := f.handlers) (p := (pp : Int)) (s := s) HP0.out HLS.out q).1
  have HQL := Aside0.mk (show rr.k + 1 ≤ (handsTo f.handlers (pp : Int) s r0 q).queue.length from by
    have h1 := (hands_inv (hs := f.handlers) (p := (pp : Int)) (s := s) HP0.out HLS.out q).2.ql
    have h2 : r0.queue.length = rr.queue.length := by rw [HR0.out]
    omega)
  have HLOW := Aside0.mk (show (w.heap.size + 2) ≤ wr.heap.size from R11.out.low (by rw [HI1.out.ll, HN.out]; omega))
  have z1 := fun o => blk_cell E1.out.1 o
  by_cases hlt : q < nh
  · have hle : (q : Int) < (nh : Int) := by omega
    have hlth : q < f.handlers.length := by rw [HNH.out]; exact hlt
    obtain ⟨ha, hha, hK, y0, y1, y2⟩ := Handler_at (Kd.C_below HH.out.2 R11.out.below) q hlth
    cases hha
    clear hK
    obtain ⟨h, hhe⟩ : ∃ h, h = el zHandler f.handlers q := ⟨_, rfl⟩
    rw [← hhe] at y0 y1 y2
    have HHE := Aside0.mk hhe; clear hhe
    have HHB := Aside0.mk (show (0 ≤ h.from_ ∧ h.from_ ≤ 300) ∧ (0 ≤ h.to_ ∧ h.to_ ≤ 300) ∧ (0 ≤ h.target ∧ h.target ≤ 300) from OK.out.hand h (by rw [HHE.out]; exact el_mem zHandler hlth))
    obtain ⟨b13, hb13⟩ : ∃ b : Nat, b = wr.heap.size := ⟨_, rfl⟩
    have M2 := Aside0.mk ((Mem.start wr).allocAt hb13 #[.int .i64 h.from_, .int .i64 h.to_, .int .i64 h.target] 107)
    go_upto_region 21 with fail
    rw [← hb13]
    clear y0 y1 y2 z1
    generalize hwt : wr.alloc (.cells #[.int .i64 h.from_, .int .i64 h.to_, .int .i64 h.target] 107) = wt at M2 ⊢
    clear hwt
    have HB13 := Aside0.mk hb13; clear hb13
    have z13 := M2.out.box (.head _)
    have HNO := Aside0.mk (fun (hn : ¬ (h.from_ ≤ (pp : Int) ∧ (pp : Int) < h.to_)) => show handsTo f.handlers (pp : Int) s r0 (q + 1) = handsTo f.handlers (pp : Int) s r0 q from by
      show (if (el zHandler f.handlers q).from_ ≤ (pp : Int) ∧ (pp : Int) < (el zHandler f.handlers q).to_ then _ else _) = _
      rw [← HHE.out, if_neg hn])
    by_cases hf1 : h.from_ ≤ (pp : Int)
    rotate_left
    · have HN2 := Aside0.mk (HNO.out (fun hc => hf1 hc.1))
      go_wp2
      go_roundw
      case measure => simp [intOf]; omega
      case rel => exact ⟨q + 1, vt4, by go_num, by omega, ⟨by rw [HN2.out]; exact R11.out.step M2.out.below⟩, ⟨S11.out.step M2.out.below⟩, ⟨E0.out.step M2.out.below⟩, ⟨E1.out.step M2.out.below⟩, ⟨E10.out.step M2.out.below⟩, ⟨E11.out.step M2.out.below⟩⟩
    by_cases hf2 : (pp : Int) < h.to_
    rotate_left
    · have HN2 := Aside0.mk (HNO.out (fun hc => hf2 hc.2))
      go_wp2
      go_roundw
      case measure => simp [intOf]; omega
      case rel => exact ⟨q + 1, vt4, by go_num, by omega, ⟨by rw [HN2.out]; exact R11.out.step M2.out.below⟩, ⟨S11.out.step M2.out.below⟩, ⟨E0.out.step M2.out.below⟩, ⟨E1.out.step M2.out.below⟩, ⟨E10.out.step M2.out.below⟩, ⟨E11.out.step M2.out.below⟩⟩
    have HYE := Aside0.mk (show handsTo f.handlers (pp : Int) s r0 (q + 1) = come (handsTo f.handlers (pp : Int) s r0 q) h.target.toNat ⟨1, s.regs⟩ from by
      show (if (el zHandler f.handlers q).from_ ≤ (pp : Int) ∧ (pp : Int) < (el zHandler f.handlers q).to_ then _ else _) = _
      rw [← HHE.out, if_pos ⟨hf1, hf2⟩])
    obtain ⟨tg, htg⟩ : ∃ tg : Nat, h.target = tg := ⟨h.target.toNat, by have := HHB.out; omega⟩
    have htg3 : tg ≤ 300 := by have := HHB.out; omega
    rw [htg] at HYE M2 z13
    rw [Int.toNat_natCast] at HYE
    go_upto_region 22 with fail
    clear z13
    obtain ⟨L, HL, ML⟩ := Mem.hide M2
    have E13 := Aside0.mk (show Hold.box b13 #[.int .i64 h.from_, .int .i64 h.to_, .int .i64 (tg : Int)] 107 ∈ L from HL.out ▸ (.head _))
    clear M2
    refine sz 9 (fun W => W.cell? ⟨b13, 2, none⟩ = some (.int .i64 (tg : Int)) ∧ W.cell? ⟨b10, 1, none⟩ = some (.slice AS s.regs.length yS)) [8] statesS.tab22 statesS.bits22 ⟨(ML.out.drew.box E13.out 2).trans rfl, (blk_cell (E10.out.step ML.out.drew.below).1 1).trans rfl⟩ (fun HT_ HW_ hHeld => ?_)
    have MD := Aside0.mk ML.out.drew
    generalize wt.drew = wd at MD hHeld ⊢
    refine pz 0 118 ?_; refine pz 1 119 ?_; refine pz 4 122 ?_; refine tz 2 120 ?_; refine tz 5 123 ?_
    refine ez 3 (some 121) (fun K hK => ?_)
    refine Kd.R_lit_step (Kd.int .i64) _ 3 ?hg (N := 121) ?hd (xs := ([] : List Int)) (inner := []) (ok := fun _ => True) (okp := fun _ => True) ?hr ?hp (fun _ hk => hk) trivial (Below.refl _ _) (Nat.le_refl _) (by simp) ?_; (case hd => rfl); (case hg => rfl); (case hr => first | (go_simp; done) | (go_simp; rfl)); (case hp => exact (Reps.none _ _))
    intro v5 w5 ho5 hb5 hg_ hnew_; clear hg_ hnew_
    have HO5 := Aside0.mk ho5; have MA := Aside0.mk (MD.out.step hb5); have HB5 := Aside0.mk hb5; clear ho5 hb5
    refine hK.out _ _ ⟨(MA.out.box E13.out 2).trans rfl, (blk_cell (E10.out.step MA.out.below).1 1).trans rfl⟩ (fun hHeld => ?_); clear hK K; refine kz (some 121) ?_
    refine ez 6 (some 124) (fun K hK => ?_)
    refine Kd.R_append_rows_step (Kd.int .i64) (w0 := wd) wd.heap.size (by rfl) (.tmp 121) (.tmp 123) 26 3 (.int .i64 0) 8 rfl Try.underlying26 info3 rfl (by decide) (by omega) v5 [] s.regs _ _ _ (fun _ => True) (fun _ => False) rfl rfl ?aO ?aR (fun _ _ h => h) (fun _ h => h.elim) ?aF ?aB ?aS ?aL ?_
    (case aR => obtain ⟨_, _, ce, _, hc2⟩ := kStateI_open (S11.out.step MA.out.below).K; cases ce; exact hc2)
    (case aO => exact HO5.out)
    (case aF => exact fun _ _ => trivial)
    (case aB => exact HB5.out)
    (case aS => exact HB5.out.size)
    (case aL => simp; omega)
    intro v6 w6 ho6 hb6 hg6 hat6; clear hg6 hat6
    rw [List.nil_append] at ho6
    obtain ⟨A6, y6, rfl⟩ := Kd.R_slice ho6
    have HO6 := Aside0.mk ho6; have MB := Aside0.mk (MD.out.step hb6); clear ho6 hb6
    refine hK.out _ _ ⟨(MB.out.box E13.out 2).trans rfl, (blk_cell (E10.out.step MB.out.below).1 1).trans rfl⟩ (fun hHeld => ?_); clear hK K; refine kz (some 124) ?_
    refine pz 7 125 ?_
    refine lz 8 (some 126) (fun K hK => ?_)
    refine gz Try.func110 #[.pointer (some ⟨g, 0, none⟩), .int .i64 (tg : Int), .agg #[.int .i64 1, .slice A6 s.regs.length y6]] ?_
    have RL := R11.out.lt; have hwd := MD.out.below.size
    have S6 := Aside0.mk (show SOk g (w.heap.size + 2) w6 vt4 ⟨1, s.regs⟩ [.int .i64 1, .slice A6 s.regs.length y6] from kStateI_mkM _ _ _ ⟨1, s.regs⟩ (Kd.R_lower (Kd.R_mono (Kd.R_bound HO6.out) (fun k hk => ⟨fun e => by have := hk.2.1; omega, fun e => by have := RL.2 k e.symm; have := hk.2.1; omega⟩)) (Nat.le_trans HLOW.out hwd)))
    refine (cFlow (rr.k + 1) g (w.heap.size + 2) w w6 (handsTo f.handlers (pp : Int) s r0 q) vl vr vt4 tg ⟨1, s.regs⟩ [.int .i64 1, .slice A6 s.regs.length y6] (R11.out.step MB.out.below) S6.out HQL.out (by have := inv_q HI1.out (by rw [HN.out]; exact hkl.2) (by rw [HRE.out]; omega); omega) (by rw [HI1.out.lr, HI1.out.ll]) (by rw [HI1.out.ll, HN.out]; omega) hls (fun z hz hzr => by rw [HI1.out.rs z (by rw [HI1.out.ll] at hz; exact hz) hzr, HRE.out]; omega) (by omega) (Nat.le_trans HLOW.out MB.out.below.size)).mono ?_
    rintro e w8 ⟨vt8, rfl, hR8, hS8, hB8⟩
    have R12 := Aside0.mk hR8; have S12 := Aside0.mk (hS8 _ _ (S11.out.step MB.out.below)); have G0 := Aside0.mk (hB8 _ _ (E0.out.step MB.out.below)); have G1 := Aside0.mk (hB8 _ _ (E1.out.step MB.out.below)); have G10 := Aside0.mk (hB8 _ _ (E10.out.step MB.out.below)); have G11 := Aside0.mk (hB8 _ _ (E11.out.step MB.out.below)); clear hR8 hS8 hB8 RL hwd
    refine ⟨_, rfl, ?_⟩
    refine hK.out _ _ ?_; clear hK K
    refine dz ?_
    clear hHeld
    go_wp2
    go_roundw
    case measure => simp [intOf]; omega
    case rel => exact ⟨q + 1, vt8, by go_num, by omega, ⟨by rw [HYE.out]; exact R12.out⟩, S12, G0, G1, G10, G11⟩
  have hle : ¬ (q : Int) < (nh : Int) := by omega
  obtain rfl : nh = q := by omega
  obtain ⟨r1, hr1⟩ : ∃ r1, r1 = handsTo f.handlers (pp : Int) s r0 nh := ⟨_, rfl⟩
  rw [← hr1] at R11 HI1 HQL HSP
  clear hr1
  obtain ⟨nx, hnx⟩ : ∃ nx, nx = afterS i s := ⟨_, rfl⟩
  rw [← hnx] at HSP
  have HNX := Aside0.mk hnx
  have HLN := Aside0.mk (show nx.regs.length = f.regs.toNat by rw [hnx, after_len]; exact HLS.out)
  have hln : nx.regs.length ≤ 1048576 := by have := HLN.out; have := HRE.out; omega
  clear hnx
  have z10 := fun o => blk_cell E10.out.1 o; have z11 := fun o => blk_cell E11.out.1 o
  go_wp2_with fail
  refine (cAfter i s _ _ S11.out.K HIB.out.1 HIB.out.2.1.1 (fun ho => may_room HMB.out ho) hls).mono ?_; rintro e w12 ⟨ds, rfl, hm, hb12⟩; rw [← HNX.out] at hm; obtain ⟨v12, rfl, hr12⟩ := kStateI_openM hm; obtain ⟨X, Y, rfl⟩ := Kd.R_slice hr12
  have M5 := Aside0.mk ((Mem.start wr).push hb12 hm); clear hm hb12 hr12 z1 z10 z11
  obtain ⟨b14, hb14⟩ : ∃ b : Nat, b = w12.heap.size := ⟨_, rfl⟩
  have hfv : wr.heap.size ≤ w12.heap.size := M5.out.below.size
  have M6 := Aside0.mk (M5.out.allocAt hb14 #[.int .i64 nx.acc, .slice X nx.regs.length Y] 31); clear M5
  have hq14 : wr.heap.size ≤ b14 := by rw [hb14]; exact hfv
  go_upto_region 24 with fail
  rw [← hb14]
  generalize hwc : w12.alloc (.cells #[.int .i64 nx.acc, .slice X nx.regs.length Y] 31) = wc at M6 ⊢
  clear hwc hb14 hfv
  have hrt := R11.out.lt
  have hnb : ∀ v : Value, (∀ k, v.ownBlock = some k → k < wr.heap.size) → some b14 ≠ v.ownBlock := fun v h e => by have := h _ e.symm; omega
  have B14 := Aside0.mk (show BOk g vl vr vt4 wc b14 (.cells #[.int .i64 nx.acc, .slice X nx.regs.length Y] 31 (0, 0)) from ⟨M6.out.blk (.head _), by omega, hnb vl (Kd.R_lt R11.out.L), hnb vr (Kd.R_lt R11.out.B), hnb vt4 (Kd.Q_lt R11.out.Q)⟩)
  have hlw : (w.heap.size + 2) ≤ wr.heap.size := HLOW.out
  have SN := Aside0.mk (SOk.of_val (g := g) (lo := (w.heap.size + 2)) (vt := vt4) (a2 := nx.acc) (M6.out.val (.tail _ (.head _))) hlw hrt.1 hrt.2)
  have R13 := Aside0.mk (R11.out.step M6.out.below)
  have G0 := Aside0.mk (E0.out.step M6.out.below); have G1 := Aside0.mk (E1.out.step M6.out.below); have G11 := Aside0.mk (E11.out.step M6.out.below)
  have HLOWC := Aside0.mk (Nat.le_trans hlw M6.out.below.size)
  clear hrt hnb hlw hq14 R11 S11 E0 E1 E10 E11 M6
  obtain ⟨ia, hia⟩ : ∃ ia : Nat, i.a = ia := ⟨i.a.toNat, by have := HIB.out; omega⟩
  have hia3 : ia ≤ 300 := by have := HIB.out; omega
  rw [hia] at G11
  by_cases hop : i.op = 12
  · have hop2 := hop
    rw [hop] at G11
    have z11 := fun o => blk_cell G11.out.1 o; have z14 := fun o => blk_cell B14.out.1 o
    go_wp2_with fail
    refine (cFlow (rr.k + 1) g (w.heap.size + 2) w _ r1 vl vr _ ia nx [.int .i64 nx.acc, .slice X nx.regs.length Y] R13.out SN.out HQL.out (by have := inv_q HI1.out (by rw [HN.out]; exact hkl.2) (by rw [HRE.out]; omega); omega) (by rw [HI1.out.lr, HI1.out.ll]) (by rw [HI1.out.ll, HN.out]; omega) hln (fun z hz hzr => by rw [HI1.out.rs z (by rw [HI1.out.ll] at hz; exact hz) hzr, HRE.out]; omega) (by omega) HLOWC.out).mono ?_
    rintro e w20 ⟨vt20, rfl, hR8, hS8, hB8⟩
    have R20 := Aside0.mk hR8; have S20 := Aside0.mk (hS8 _ _ SN.out)
    have J0 := Aside0.mk (hB8 _ _ G0.out)
    have J1 := Aside0.mk (hB8 _ _ G1.out)
    have J11 := Aside0.mk (hB8 _ _ G11.out)
    clear hR8 hS8 hB8
    clear z11 z14
    have z11 := fun o => blk_cell J11.out.1 o
    have HE := Aside0.mk (show stepP x f r0 pp = (come r1 ia nx) from by rw [HSP.out]; unfold next jump isEnd isJump; simp [hop, hia])
    have HKE := Aside0.mk HSK.out; have HME := Aside0.mk HSM.out
    rw [HE.out] at HKE HME
    go_wp2
    go_roundg (meas f.regs.toNat (come r1 ia nx))
    case measure => have h1 := HME.out; have h2 := HGK.out; omega
    case rel => exact ⟨m + 1, vt20, by rw [HST.out, HE.out], ⟨by rw [HST.out, HE.out, HKE.out]; exact R20.out⟩, J0, J1⟩
  by_cases hop : i.op = 17
  · have hop2 := hop
    rw [hop] at G11
    have z11 := fun o => blk_cell G11.out.1 o; have z14 := fun o => blk_cell B14.out.1 o
    have HE := Aside0.mk (show stepP x f r0 pp = r1 from by rw [HSP.out]; unfold next jump isEnd isJump; simp [hop, hia])
    have HKE := Aside0.mk HSK.out; have HME := Aside0.mk HSM.out
    rw [HE.out] at HKE HME
    go_wp2
    go_roundg (meas f.regs.toNat r1)
    case measure => have h1 := HME.out; have h2 := HGK.out; omega
    case rel => exact ⟨m + 1, vt4, by rw [HST.out, HE.out], ⟨by rw [HST.out, HE.out, HKE.out]; exact R13.out⟩, G0, G1⟩
  by_cases hop : i.op = 18
  · have hop2 := hop
    rw [hop] at G11
    have z11 := fun o => blk_cell G11.out.1 o; have z14 := fun o => blk_cell B14.out.1 o
    have HE := Aside0.mk (show stepP x f r0 pp = r1 from by rw [HSP.out]; unfold next jump isEnd isJump; simp [hop, hia])
    have HKE := Aside0.mk HSK.out; have HME := Aside0.mk HSM.out
    rw [HE.out] at HKE HME
    go_wp2
    go_roundg (meas f.regs.toNat r1)
    case measure => have h1 := HME.out; have h2 := HGK.out; omega
    case rel => exact ⟨m + 1, vt4, by rw [HST.out, HE.out], ⟨by rw [HST.out, HE.out, HKE.out]; exact R13.out⟩, G0, G1⟩
  by_cases hop : i.op = 14
  · have hop2 := hop
    rw [hop] at G11
    have z11 := fun o => blk_cell G11.out.1 o; have z14 := fun o => blk_cell B14.out.1 o
    go_wp2_with fail
    refine (cFlow (rr.k + 1) g (w.heap.size + 2) w _ r1 vl vr _ ia nx [.int .i64 nx.acc, .slice X nx.regs.length Y] R13.out SN.out HQL.out (by have := inv_q HI1.out (by rw [HN.out]; exact hkl.2) (by rw [HRE.out]; omega); omega) (by rw [HI1.out.lr, HI1.out.ll]) (by rw [HI1.out.ll, HN.out]; omega) hln (fun z hz hzr => by rw [HI1.out.rs z (by rw [HI1.out.ll] at hz; exact hz) hzr, HRE.out]; omega) (by omega) HLOWC.out).mono ?_
    rintro e w20 ⟨vt20, rfl, hR8, hS8, hB8⟩
    have R20 := Aside0.mk hR8; have S20 := Aside0.mk (hS8 _ _ SN.out)
    have J0 := Aside0.mk (hB8 _ _ G0.out)
    have J1 := Aside0.mk (hB8 _ _ G1.out)
    have J11 := Aside0.mk (hB8 _ _ G11.out)
    have J14 := Aside0.mk (hB8 _ _ B14.out)
    clear hR8 hS8 hB8
    clear z11 z14
    have z11 := fun o => blk_cell J11.out.1 o; have z14 := fun o => blk_cell J14.out.1 o
    have HI2 := Aside0.mk (come_inv (p := ia) (s := nx) HI1.out HLN.out)
    have HI3 := Aside0.mk HI2.out.1; have HQ2 := Aside0.mk (Nat.le_trans HQL.out HI2.out.2.ql)
    have HLOW2 := Aside0.mk (R20.out.low (by rw [HI3.out.ll, HN.out]; omega))
    go_wp2_with fail
    refine (cFlow (rr.k + 1) g (w.heap.size + 2) w _ (come r1 ia nx) vl vr _ (pp + 1) nx [.int .i64 nx.acc, .slice X nx.regs.length Y] R20.out S20.out HQ2.out (by have := inv_q HI3.out (by rw [HN.out]; exact hkl.2) (by rw [HRE.out]; omega); omega) (by rw [HI3.out.lr, HI3.out.ll]) (by rw [HI3.out.ll, HN.out]; omega) hln (fun z hz hzr => by rw [HI3.out.rs z (by rw [HI3.out.ll] at hz; exact hz) hzr, HRE.out]; omega) (by omega) HLOW2.out).mono ?_
    rintro e w21 ⟨vt21, rfl, hR8, hS8, hB8⟩
    have R21 := Aside0.mk hR8; have S21 := Aside0.mk (hS8 _ _ S20.out)
    have K0 := Aside0.mk (hB8 _ _ J0.out)
    have K1 := Aside0.mk (hB8 _ _ J1.out)
    clear hR8 hS8 hB8
    have HE := Aside0.mk (show stepP x f r0 pp = (come (come r1 ia nx) (pp + 1) nx) from by rw [HSP.out]; unfold next jump isEnd isJump; simp [hop, hia])
    have HKE := Aside0.mk HSK.out; have HME := Aside0.mk HSM.out
    rw [HE.out] at HKE HME
    go_wp2
    go_roundg (meas f.regs.toNat (come (come r1 ia nx) (pp + 1) nx))
    case measure => have h1 := HME.out; have h2 := HGK.out; omega
    case rel => exact ⟨m + 1, vt21, by rw [HST.out, HE.out], ⟨by rw [HST.out, HE.out, HKE.out]; exact R21.out⟩, K0, K1⟩
  by_cases hop : i.op = 13
  · have hop2 := hop
    rw [hop] at G11
    have z11 := fun o => blk_cell G11.out.1 o; have z14 := fun o => blk_cell B14.out.1 o
    go_wp2_with fail
    refine (cFlow (rr.k + 1) g (w.heap.size + 2) w _ r1 vl vr _ ia nx [.int .i64 nx.acc, .slice X nx.regs.length Y] R13.out SN.out HQL.out (by have := inv_q HI1.out (by rw [HN.out]; exact hkl.2) (by rw [HRE.out]; omega); omega) (by rw [HI1.out.lr, HI1.out.ll]) (by rw [HI1.out.ll, HN.out]; omega) hln (fun z hz hzr => by rw [HI1.out.rs z (by rw [HI1.out.ll] at hz; exact hz) hzr, HRE.out]; omega) (by omega) HLOWC.out).mono ?_
    rintro e w20 ⟨vt20, rfl, hR8, hS8, hB8⟩
    have R20 := Aside0.mk hR8; have S20 := Aside0.mk (hS8 _ _ SN.out)
    have J0 := Aside0.mk (hB8 _ _ G0.out)
    have J1 := Aside0.mk (hB8 _ _ G1.out)
    have J11 := Aside0.mk (hB8 _ _ G11.out)
    have J14 := Aside0.mk (hB8 _ _ B14.out)
    clear hR8 hS8 hB8
    clear z11 z14
    have z11 := fun o => blk_cell J11.out.1 o; have z14 := fun o => blk_cell J14.out.1 o
    have HI2 := Aside0.mk (come_inv (p := ia) (s := nx) HI1.out HLN.out)
    have HI3 := Aside0.mk HI2.out.1; have HQ2 := Aside0.mk (Nat.le_trans HQL.out HI2.out.2.ql)
    have HLOW2 := Aside0.mk (R20.out.low (by rw [HI3.out.ll, HN.out]; omega))
    go_wp2_with fail
    refine (cFlow (rr.k + 1) g (w.heap.size + 2) w _ (come r1 ia nx) vl vr _ (pp + 1) nx [.int .i64 nx.acc, .slice X nx.regs.length Y] R20.out S20.out HQ2.out (by have := inv_q HI3.out (by rw [HN.out]; exact hkl.2) (by rw [HRE.out]; omega); omega) (by rw [HI3.out.lr, HI3.out.ll]) (by rw [HI3.out.ll, HN.out]; omega) hln (fun z hz hzr => by rw [HI3.out.rs z (by rw [HI3.out.ll] at hz; exact hz) hzr, HRE.out]; omega) (by omega) HLOW2.out).mono ?_
    rintro e w21 ⟨vt21, rfl, hR8, hS8, hB8⟩
    have R21 := Aside0.mk hR8; have S21 := Aside0.mk (hS8 _ _ S20.out)
    have K0 := Aside0.mk (hB8 _ _ J0.out)
    have K1 := Aside0.mk (hB8 _ _ J1.out)
    clear hR8 hS8 hB8
    have HE := Aside0.mk (show stepP x f r0 pp = (come (come r1 ia nx) (pp + 1) nx) from by rw [HSP.out]; unfold next jump isEnd isJump; simp [hop, hia])
    have HKE := Aside0.mk HSK.out; have HME := Aside0.mk HSM.out
    rw [HE.out] at HKE HME
    go_wp2
    go_roundg (meas f.regs.toNat (come (come r1 ia nx) (pp + 1) nx))
    case measure => have h1 := HME.out; have h2 := HGK.out; omega
    case rel => exact ⟨m + 1, vt21, by rw [HST.out, HE.out], ⟨by rw [HST.out, HE.out, HKE.out]; exact R21.out⟩, K0, K1⟩
  have q12 : (i.op == 12) = false := by simp; omega
  have q17 : (i.op == 17) = false := by simp; omega
  have q18 : (i.op == 18) = false := by simp; omega
  have q14 : (i.op == 14) = false := by simp; omega
  have q13 : (i.op == 13) = false := by simp; omega
  have r12 : (i.op != 12) = true := by simp; omega
  have r17 : (i.op != 17) = true := by simp; omega
  have r18 : (i.op != 18) = true := by simp; omega
  have z11 := fun o => blk_cell G11.out.1 o; have z14 := fun o => blk_cell B14.out.1 o
  go_wp2_with fail
  refine (cFlow (rr.k + 1) g (w.heap.size + 2) w _ r1 vl vr _ (pp + 1) nx [.int .i64 nx.acc, .slice X nx.regs.length Y] R13.out SN.out HQL.out (by have := inv_q HI1.out (by rw [HN.out]; exact hkl.2) (by rw [HRE.out]; omega); omega) (by rw [HI1.out.lr, HI1.out.ll]) (by rw [HI1.out.ll, HN.out]; omega) hln (fun z hz hzr => by rw [HI1.out.rs z (by rw [HI1.out.ll] at hz; exact hz) hzr, HRE.out]; omega) (by omega) HLOWC.out).mono ?_
  rintro e w20 ⟨vt20, rfl, hR8, hS8, hB8⟩
  have R20 := Aside0.mk hR8; have S20 := Aside0.mk (hS8 _ _ SN.out)
  have J0 := Aside0.mk (hB8 _ _ G0.out)
  have J1 := Aside0.mk (hB8 _ _ G1.out)
  clear hR8 hS8 hB8
  have HE := Aside0.mk (show stepP x f r0 pp = (come r1 (pp + 1) nx) from by rw [HSP.out]; unfold next jump isEnd isJump; rw [decide_eq_false (by omega), decide_eq_false (by omega)]; rfl)
  have HKE := Aside0.mk HSK.out; have HME := Aside0.mk HSM.out
  rw [HE.out] at HKE HME
  go_wp2
  go_roundg (meas f.regs.toNat (come r1 (pp + 1) nx))
  case measure => have h1 := HME.out; have h2 := HGK.out; omega
  case rel => exact ⟨m + 1, vt20, by rw [HST.out, HE.out], ⟨by rw [HST.out, HE.out, HKE.out]; exact R20.out⟩, J0, J1⟩
end Go.Proofs.Ytcbaokflimdjnaa.Flow
end
section
namespace Go.Proofs.Ytcbaokflimdjnaa.Flow
open Go.RowKit Go.Proofs.YtcbaokflimdjnaaW.PrintWords Go.Proofs.YtcbaokflimdjnaaW.PrintLast Go.Proofs.Ytcbaokflimdjnaa.Steps Go.Proofs.YtcbaokflimdjnaaW.PrintMore Go.Proofs.Ytcbaokflimdjnaa.Law Go.Proofs.Ytcbaokflimdjnaa Go.Proofs.Ytcbaokflimdjnaa.QFnExactVerify Go.Proofs.Ytcbaokflimdjnaa.Num Go.Proofs.Ytcbaokflimdjnaa.PureJoin
set_option linter.unusedVariables false
set_option linter.unusedSimpArgs false
set_option autoImplicit false
def flowC.T4 : Bool × List (List Nat × List Nat) := (true, [([], []), ([0], [0]), ([1], [1]), ([2], [2]), ([], []), ([3, 4], [3, 4]), ([5], [5]), ([], []), ([6, 7], [6, 7]), ([8, 8, 0, 1, 2, 3, 4, 5, 6, 7, 8], [8])])
def flowC.B4 : List Nat := [0, 1, 3, 7, 0, 31, 63, 0, 255, 511]
theorem flowC.tab4 : rtab .any (opsOf Try.f111 4) = flowC.T4 := by kernel_rfl
theorem flowC.bits4 : waitsOk flowC.T4.2 flowC.B4 = true := by kernel_rfl
def flowC.T5 : Bool × List (List Nat × List Nat) := (true, [([], []), ([0], [0]), ([], []), ([2], [2]), ([3], [3]), ([4], [4]), ([], []), ([5, 6], [5, 6]), ([7], [7]), ([8], [8]), ([1, 9], [1, 9]), ([10], [10]), ([11], [11]), ([12, 11], [11, 12]), ([11], [11]), ([14, 11], [11, 14]), ([15, 11], [11, 15]), ([16, 11], [11, 16]), ([11], [11]), ([17, 18, 11], [11, 17, 18]), ([19, 11], [11, 19]), ([20, 11], [11, 20]), ([13, 21, 11, 11], [11, 13, 21]), ([11, 22], [11, 22])])
def flowC.B5 : List Nat := [0, 1, 0, 4, 12, 28, 0, 124, 252, 508, 1023, 2047, 4095, 8191, 4095, 20479, 53247, 118783, 4095, 511999, 1036287, 2084863, 4194303, 8388607]
theorem flowC.tab5 : rtab .any (opsOf Try.f111 5) = flowC.T5 := by kernel_rfl
theorem flowC.bits5 : waitsOk flowC.T5.2 flowC.B5 = true := by kernel_rfl
def flowC.T6 : Bool × List (List Nat × List Nat) := (true, [([], []), ([0], [0]), ([1], [1]), ([2], [2]), ([], []), ([], []), ([5], [5]), ([3, 4, 0, 1, 2, 3, 4, 5, 6], [3, 4]), ([7, 6, 6, 0, 1, 2, 3, 4, 5, 6], [6, 7])])
def flowC.B6 : List Nat := [0, 1, 3, 7, 0, 0, 32, 127, 255]
theorem flowC.tab6 : rtab .any (opsOf Try.f111 6) = flowC.T6 := by kernel_rfl
theorem flowC.bits6 : waitsOk flowC.T6.2 flowC.B6 = true := by kernel_rfl
set_option maxHeartbeats 8000000 in
set_option maxRecDepth 100000 in
theorem cCome (d g lo : Nat) (w0 w : World) (r : Fl) (px pf : Value) (vl vr vt : Value) (p : Nat) (s : State) (cs : List Value)
    (hr : Run 149 #[px, pf, vl, vr, vt, .bool r.bad] d g lo w0 w r vl vr vt) (hs : SOk g lo w vt s cs) (hd : d ≤ r.queue.length) (hq : r.queue.length ≤ 1000000) (hlr : r.reached.length = r.list.length) (hll : r.list.length ≤ 1048576) (hls : s.regs.length ≤ 1048576) (hle : ∀ i : Nat, i < r.list.length → el false r.reached i = true → (el zState r.list i).regs.length ≤ 1048576) (hp : p ≤ 1000000) (hlow : lo ≤ w.heap.size) :
    Calls Try.prog 111 #[.pointer (some ⟨g, 0, none⟩), .int .i64 p, .agg ⟨cs⟩] w fun e w' => ∃ vt', e = .returned (.tuple #[]) ∧ Run 149 #[px, pf, vl, vr, vt', .bool (come r p s).bad] d g lo w0 w' (come r p s) vl vr vt' ∧ (∀ s' cs', SOk g lo w vt s' cs' → SOk g lo w' vt' s' cs') ∧ (∀ q o, BOk g vl vr vt w q o → BOk g vl vr vt' w' q o) := by
  obtain ⟨v, rfl, hrs⟩ := kStateI_openM hs
  obtain ⟨AS, yS, rfl⟩ := Kd.R_slice hrs
  obtain ⟨AL, yL, rfl⟩ := Kd.R_slice hr.L
  obtain ⟨AR, yR, rfl⟩ := Kd.R_slice hr.B
  obtain ⟨AT, yT, rfl, hyT⟩ := Kd.Q_slice hr.Q
  clear hrs
  obtain ⟨nq, hnq⟩ : ∃ nq : Nat, (r.queue.drop d).length = nq := ⟨_, rfl⟩
  rw [hnq] at hr hs hyT ⊢
  have hu := Try.underlying31; have hu1 := Try.underlying48; have hu2 := Try.underlying49; have hu3 := Try.underlying26; have hu4 := Try.underlying149
  have HR := Aside0.mk hr; have HS := Aside0.mk hs; have HLE := Aside0.mk hle
  clear hr hs hle
  have M0 := Aside0.mk ((Mem.start w).allocAt rfl #[.int .i64 s.acc, .slice AS s.regs.length yS] 31)
  have B0 := Aside0.mk (below_alloc (Below.refl w.heap.size w) (.cells #[.int .i64 s.acc, .slice AS s.regs.length yS] 31))
  have R0 := Aside0.mk (HR.out.step B0.out); have S0 := Aside0.mk (HS.out.step B0.out)
  have q2 := (blk_cell R0.out.box 2).trans rfl
  have q3 := (blk_cell R0.out.box 3).trans rfl
  have q4 := (blk_cell R0.out.box 4).trans rfl
  have q5 := (blk_cell R0.out.box 5).trans rfl
  have f3 := blk_frozen R0.out.box 5
  have gn : (g : Nat) ≠ w.heap.size := Nat.ne_of_lt (blk_lt HR.out.box)
  go_enter Try.func111, Try.ntmps111
  by_cases hlt : p < r.list.length
  rotate_left
  · have hge : decide ((r.list.length : Int) ≤ (p : Int)) = true := by simp; omega
    have hce : come r p s = { r with bad := true } := by unfold come; rw [if_pos (by omega)]
    have HCE := Aside0.mk hce; clear hce
    go_wp2
    ((try simp only [Exit.inBlock, Exit.then]); refine bodyPost_ret (results_none rfl _ _ _) rfl ?_)
    refine ⟨.slice AT nq yT, rfl, ?_, fun s' cs' h => (h.step B0.out).set _ _, fun q o h => (h.step B0.out).set _ _⟩
    rw [HCE.out]
    exact (R0.out.set 5 (.bool true) rfl).as rfl rfl rfl
  have hge : decide ((r.list.length : Int) ≤ (p : Int)) = false := by simp; omega
  have hp0 : (0 : Int) ≤ (p : Int) := by omega
  have hpl : (p : Int) < (r.list.length : Int) := by omega
  have hpr : (p : Int) < (r.reached.length : Int) := by omega
  clear hlr
  obtain ⟨gl, cl, hgl, _, _, _, _⟩ := Kd.R_form HR.out.L (by omega)
  injection hgl with h1 h2 h3; subst h1; subst h3; clear h2
  obtain ⟨gr, cr, hgr, _, _, _, _⟩ := Kd.R_form HR.out.B (by omega)
  injection hgr with h1 h2 h3; subst h1; subst h3; clear h2
  obtain ⟨rb, hrb⟩ : ∃ rb, rb = el false r.reached p := ⟨_, rfl⟩
  have M1 := M0; have B1 := B0; have R1 := R0; have S1 := S0
  have z0 := M0.out.box (.head _); have z1 := M1.out.box (.head _)
  have x0 : (w.alloc (.cells #[.int .i64 s.acc, .slice AS s.regs.length yS] 31)).cell? ⟨gr, p, none⟩ = some (.bool rb) := by have h := (Kd.R_celln false R1.out.B (p : Int) (by omega) (by omega)).1; rw [Int.toNat_natCast] at h; rw [hrb]; exact h
  rcases Bool.eq_false_or_eq_true rb with hb1 | hb1
  · subst hb1
    obtain ⟨c, hcl, hcM, hcc, hcf⟩ := Kd.R_elem HR.out.L zState (p : Int) (by omega) (by omega)
    obtain ⟨a, ha⟩ : ∃ a, a = el zState r.list p := ⟨_, rfl⟩
    have hcM2 := hcM
    rw [Int.toNat_natCast, show r.list.getD p zState = a from ha.symm] at hcM2
    obtain ⟨va, rfl, hra⟩ := kStateI_openM hcM2
    obtain ⟨AA, yA, rfl⟩ := Kd.R_slice hra
    have hla : a.regs.length ≤ 1048576 := by rw [ha]; exact HLE.out p hlt hrb.symm
    have KA := Aside0.mk (kStateI.K_of_M hcM2)
    have E0 := Aside0.mk (show w.cell? ⟨gl, p * 2, none⟩ = some (.int .i64 a.acc) from hcc 0 _ rfl); have E1 := Aside0.mk (show w.cell? ⟨gl, p * 2 + 1, none⟩ = some (.slice AA a.regs.length yA) from hcc 1 _ rfl)
    clear hcl hcM hcc hcf hcM2 hra
    obtain ⟨J, hJ⟩ : ∃ J, J = joinS a s := ⟨_, rfl⟩
    have hlj : J.regs.length ≤ 1048576 := by rw [hJ]; show (joined a.regs s.regs).length ≤ 1048576; rw [joined_length]; omega
    have HRB := Aside0.mk hrb; have HA := Aside0.mk ha; have HJ := Aside0.mk hJ; clear hrb ha hJ
    go_upto_region 4 with fail
    clear z0 z1 q2 q3 q4 q5 f3 x0
    generalize (w.alloc (.cells #[.int .i64 s.acc, .slice AS s.regs.length yS] 31)) = wq at M1 ⊢
    obtain ⟨L, HL, ML⟩ := Mem.hide M1
    have ES := Aside0.mk (show Hold.box w.heap.size #[.int .i64 s.acc, .slice AS s.regs.length yS] 31 ∈ L from HL.out ▸ (.head _))
    have MD := Aside0.mk ML.out.drew
    clear M1 ML
    have EW := Aside0.mk (show Hold.box w.heap.size #[.int .i64 s.acc, .slice AS s.regs.length yS] 31 ∈ L from HL.out ▸ (.head _))
    refine sz 10 (fun W => W.cell? ⟨g, 2, none⟩ = some (.slice (some ⟨gl, 0, none⟩) r.list.length yL) ∧ W.cell? ⟨gl, p * 2, none⟩ = some (.int .i64 a.acc) ∧ W.cell? ⟨gl, p * 2 + 1, none⟩ = some (.slice AA a.regs.length yA) ∧ W.cell? ⟨w.heap.size, 0, none⟩ = some (.int .i64 s.acc) ∧ W.cell? ⟨w.heap.size, 1, none⟩ = some (.slice AS s.regs.length yS)) [9] flowC.tab4 flowC.bits4 ⟨(blk_cell (HR.out.step MD.out.below).box 2).trans rfl, pw_cell_below MD.out.below E0.out, pw_cell_below MD.out.below E1.out, (MD.out.box ES.out 0).trans rfl, (MD.out.box ES.out 1).trans rfl⟩ (fun HT_ HW_ hHeld => ?_)
    generalize wq.drew = wd at MD hHeld ⊢
    have HWD := Aside0.mk MD.out.below.size
    refine pz 0 23 ?_; refine pz 1 24 ?_; refine pz 2 25 ?_; refine pz 4 27 ?_; refine tz 3 26 ?_; refine pz 5 28 ?_; refine tz 6 29 ?_; refine tz 7 30 ?_
    refine ez 8 (some 31) (fun K hK => ?_)
    refine gz Try.func144 #[.agg #[.int .i64 a.acc, .slice AA a.regs.length yA], .agg #[.int .i64 s.acc, .slice AS s.regs.length yS]] ?_
    refine (implJoin a s _ _ _ (kStateI.K_below MD.out.below KA.out) (kStateI.K_below MD.out.below HS.out.K) hla hls).mono ?_; rintro e w5 ⟨ds, rfl, hm, hb⟩; rw [← HJ.out] at hm; obtain ⟨v5, rfl, hr5⟩ := kStateI_openM hm; obtain ⟨XJ, yJ, rfl⟩ := Kd.R_slice hr5; clear hr5
    have M5 := Aside0.mk (MD.out.push hb hm); have ES5 := Aside0.mk (List.Mem.tail (Hold.val kStateI wd.heap.size w5.heap.size J [.int .i64 J.acc, .slice XJ J.regs.length yJ]) ES.out); clear hm hb
    refine ⟨_, rfl, ?_⟩
    refine hK.out _ _ ⟨(blk_cell (HR.out.step M5.out.below).box 2).trans rfl, pw_cell_below M5.out.below E0.out, pw_cell_below M5.out.below E1.out, (M5.out.box ES5.out 0).trans rfl, (M5.out.box ES5.out 1).trans rfl⟩ (fun hHeld => ?_); clear hK K; refine kz (some 31) ?_
    refine lz 9 none (fun K hK => ?_)
    have b0 := M5.out.box (List.Mem.tail _ EW.out); have b1 := M5.out.free (List.Mem.tail _ EW.out)
    refine skip_ (w1 := ?_) (by rfl) rfl ?_ ?_
    rotate_left
    · go_simp
      rfl
    clear b0 b1
    refine hK.out _ _ ?_; clear hK K
    refine dz ?_
    have hl := HL.out; subst hl; clear HL ES ES5 EW MD hHeld
    have M6 := Aside0.mk (Mem.set (A := [_]) (Mem.set (A := [_]) M5.out 0 (.int .i64 J.acc) rfl) 1 (.slice XJ J.regs.length yJ) rfl)
    obtain ⟨W6, hW6⟩ : ∃ W6, W6 = (w5.setCell ⟨w.heap.size, 0, none⟩ (.int .i64 J.acc)).setCell ⟨w.heap.size, 1, none⟩ (.slice XJ J.regs.length yJ) := ⟨_, rfl⟩
    rw [← hW6] at M6
    try rw [← hW6]
    clear M5 hW6
    have HVJ := Aside0.mk (M6.out.val (.head _))
    have SJ := Aside0.mk (show SOk g lo W6 (.slice AT nq yT) J [.int .i64 J.acc, .slice XJ J.regs.length yJ] from kStateI.M_mono (fun k hk => ⟨fun e => by have h1 := hk.1; have h2 := HR.out.lt.1; have h3 := HWD.out; omega, fun e => by have h1 := hk.1; have h2 := HR.out.lt.2 k e.symm; have h3 := HWD.out; omega⟩) (kStateI.M_lower (Nat.le_trans hlow HWD.out) HVJ.out))
    by_cases hacc : J.acc = a.acc
    · have ht1 : (J.acc == a.acc) = true := by simpa using hacc
      by_cases hrg : J.regs = a.regs
      · have hja : J = a := by obtain ⟨_, _⟩ := J; obtain ⟨_, _⟩ := a; cases hacc; cases hrg; rfl
        have HDJ := Aside0.mk (decide_eq_true hrg); have HJA := Aside0.mk hja; clear hja hrg hacc
        go_upto_region 5 with fail
        obtain ⟨L, HL, ML⟩ := Mem.hide M6
        have EW := Aside0.mk (show Hold.box w.heap.size #[.int .i64 J.acc, .slice XJ J.regs.length yJ] 31 ∈ L from HL.out ▸ (.tail _ (.head _)))
        have MD := Aside0.mk ML.out.drew; have SD := Aside0.mk (SJ.out.step (below_drew1 (Below.refl _ _)))
        clear M6 ML HVJ SJ
        refine sz 24 (fun W => W.cell? ⟨g, 2, none⟩ = some (.slice (some ⟨gl, 0, none⟩) r.list.length yL) ∧ W.cell? ⟨gl, p * 2, none⟩ = some (.int .i64 a.acc) ∧ W.cell? ⟨gl, p * 2 + 1, none⟩ = some (.slice AA a.regs.length yA) ∧ W.cell? ⟨w.heap.size, 0, none⟩ = some (.int .i64 J.acc) ∧ W.cell? ⟨w.heap.size, 1, none⟩ = some (.slice XJ J.regs.length yJ)) [] flowC.tab5 flowC.bits5 ⟨(blk_cell (HR.out.step MD.out.below).box 2).trans rfl, pw_cell_below MD.out.below E0.out, pw_cell_below MD.out.below E1.out, (MD.out.box EW.out 0).trans rfl, (MD.out.box EW.out 1).trans rfl⟩ (fun HT_ HW_ hHeld => ?_)
        generalize W6.drew = wd6 at MD SD hHeld ⊢
        refine pz 0 32 ?_; refine pz 2 34 ?_; refine pz 3 35 ?_; refine pz 4 36 ?_; refine pz 6 38 ?_; refine tz 1 33 ?_; refine tz 5 37 ?_; refine pz 7 39 ?_; refine pz 8 40 ?_; refine tz 9 41 ?_; refine pz 10 42 ?_; refine pz 11 43 ?_; refine pz 12 44 ?_; refine pz 14 46 ?_; refine pz 15 47 ?_; refine pz 16 48 ?_; refine pz 18 50 ?_; refine tz 13 45 ?_; refine tz 17 49 ?_; refine pz 19 51 ?_; refine pz 20 52 ?_; refine tz 21 53 ?_
        refine ez 22 (some 54) (fun K hK => ?_)
        refine gz Try.func145 #[.slice XJ J.regs.length yJ, .slice AA a.regs.length yA] ?_
        obtain ⟨AJ1, cJ1, ej, hj1, hj2⟩ := kStateI_open SD.out.K
        cases ej
        obtain ⟨AJ2, cJ2, ea, ha1, ha2⟩ := kStateI_open (kStateI.K_below MD.out.below KA.out)
        cases ea
        have C := slices_Equal_int_int.calls 1048577 XJ yJ J.regs AA yA a.regs _ wd6 hj2 hj1 ha2 ha1 (equal_ok J.regs a.regs hlj (Nat.le_refl _))
        rw [HDJ.out] at C
        refine C.mono ?_; clear C; rintro e w7 ⟨rfl, ⟨⟨n7, rfl⟩⟩⟩
        have M7 := Aside0.mk (MD.out.draw n7); have S7 := Aside0.mk (SD.out.step (pw_below_drewN (Below.refl _ _) n7))
        refine ⟨_, rfl, ?_⟩
        refine hK.out _ _ ⟨(blk_cell (HR.out.step M7.out.below).box 2).trans rfl, pw_cell_below M7.out.below E0.out, pw_cell_below M7.out.below E1.out, (M7.out.box EW.out 0).trans rfl, (M7.out.box EW.out 1).trans rfl⟩ (fun hHeld => ?_); clear hK K; refine kz (some 54) ?_
        refine pz 23 55 ?_
        refine dz ?_
        have HCE := Aside0.mk (show come r p s = r by unfold come; rw [if_neg (by omega), ← HRB.out, if_pos rfl, ← HA.out, ← HJ.out, if_pos HJA.out])
        have hl := HL.out; subst hl; clear HL EW
        go_wp2
        first | go_end0 | ((try simp only [Exit.inBlock, Exit.then]); refine bodyPost_ret (results_none rfl _ _ _) rfl ?_)
        rw [HCE.out]
        first | exact ⟨_, rfl, HR.out.step M7.out.below, fun s' cs' h => h.step M7.out.below, fun q o h => h.step M7.out.below⟩ | exact ⟨rfl, _, HR.out.step M7.out.below, fun s' cs' h => h.step M7.out.below, fun q o h => h.step M7.out.below⟩
      · have hja : ¬ J = a := by intro e; exact hrg (by rw [e])
        have HDJ := Aside0.mk (decide_eq_false hrg); have HJA := Aside0.mk hja; clear hja hrg hacc
        go_upto_region 5 with fail
        obtain ⟨L, HL, ML⟩ := Mem.hide M6
        have EW := Aside0.mk (show Hold.box w.heap.size #[.int .i64 J.acc, .slice XJ J.regs.length yJ] 31 ∈ L from HL.out ▸ (.tail _ (.head _)))
        have MD := Aside0.mk ML.out.drew; have SD := Aside0.mk (SJ.out.step (below_drew1 (Below.refl _ _)))
        clear M6 ML HVJ SJ
        refine sz 24 (fun W => W.cell? ⟨g, 2, none⟩ = some (.slice (some ⟨gl, 0, none⟩) r.list.length yL) ∧ W.cell? ⟨gl, p * 2, none⟩ = some (.int .i64 a.acc) ∧ W.cell? ⟨gl, p * 2 + 1, none⟩ = some (.slice AA a.regs.length yA) ∧ W.cell? ⟨w.heap.size, 0, none⟩ = some (.int .i64 J.acc) ∧ W.cell? ⟨w.heap.size, 1, none⟩ = some (.slice XJ J.regs.length yJ)) [] flowC.tab5 flowC.bits5 ⟨(blk_cell (HR.out.step MD.out.below).box 2).trans rfl, pw_cell_below MD.out.below E0.out, pw_cell_below MD.out.below E1.out, (MD.out.box EW.out 0).trans rfl, (MD.out.box EW.out 1).trans rfl⟩ (fun HT_ HW_ hHeld => ?_)
        generalize W6.drew = wd6 at MD SD hHeld ⊢
        refine pz 0 32 ?_; refine pz 2 34 ?_; refine pz 3 35 ?_; refine pz 4 36 ?_; refine pz 6 38 ?_; refine tz 1 33 ?_; refine tz 5 37 ?_; refine pz 7 39 ?_; refine pz 8 40 ?_; refine tz 9 41 ?_; refine pz 10 42 ?_; refine pz 11 43 ?_; refine pz 12 44 ?_; refine pz 14 46 ?_; refine pz 15 47 ?_; refine pz 16 48 ?_; refine pz 18 50 ?_; refine tz 13 45 ?_; refine tz 17 49 ?_; refine pz 19 51 ?_; refine pz 20 52 ?_; refine tz 21 53 ?_
        refine ez 22 (some 54) (fun K hK => ?_)
        refine gz Try.func145 #[.slice XJ J.regs.length yJ, .slice AA a.regs.length yA] ?_
        obtain ⟨AJ1, cJ1, ej, hj1, hj2⟩ := kStateI_open SD.out.K
        cases ej
        obtain ⟨AJ2, cJ2, ea, ha1, ha2⟩ := kStateI_open (kStateI.K_below MD.out.below KA.out)
        cases ea
        have C := slices_Equal_int_int.calls 1048577 XJ yJ J.regs AA yA a.regs _ wd6 hj2 hj1 ha2 ha1 (equal_ok J.regs a.regs hlj (Nat.le_refl _))
        rw [HDJ.out] at C
        refine C.mono ?_; clear C; rintro e w7 ⟨rfl, ⟨⟨n7, rfl⟩⟩⟩
        have M7 := Aside0.mk (MD.out.draw n7); have S7 := Aside0.mk (SD.out.step (pw_below_drewN (Below.refl _ _) n7))
        refine ⟨_, rfl, ?_⟩
        refine hK.out _ _ ⟨(blk_cell (HR.out.step M7.out.below).box 2).trans rfl, pw_cell_below M7.out.below E0.out, pw_cell_below M7.out.below E1.out, (M7.out.box EW.out 0).trans rfl, (M7.out.box EW.out 1).trans rfl⟩ (fun hHeld => ?_); clear hK K; refine kz (some 54) ?_
        refine pz 23 55 ?_
        refine dz ?_
        have HCE := Aside0.mk (show come r p s = { r with list := r.list.set p J, reached := r.reached.set p true, queue := r.queue ++ [(p : Int)] } by unfold come; rw [if_neg (by omega), ← HRB.out, if_pos rfl, ← HA.out, ← HJ.out, if_neg HJA.out])
        have hl := HL.out; subst hl; clear HL EW
        generalize World.drewN wd6 n7 = wq7 at M7 S7 ⊢
        go_upto_region 6 with fail
        have BB := Aside0.mk M7.out.below; have RR := Aside0.mk (HR.out.step BB.out)
        obtain ⟨L, HL, ML⟩ := Mem.hide M7
        have EN := Aside0.mk (show Hold.box (w.heap.size) #[.int .i64 J.acc, .slice XJ J.regs.length yJ] 31 ∈ L from HL.out ▸ (.tail _ (.head _)))
        have MD := Aside0.mk ML.out.drew; have RD := Aside0.mk (RR.out.step (below_drew1 (Below.refl _ _))); have SD := Aside0.mk (S7.out.step (below_drew1 (Below.refl _ _))); have BD := Aside0.mk (below_drew1 BB.out)
        clear M7 RR BB S7 ML
        have lw := RD.out.lt
        refine sz 9 (fun W => W.cell? ⟨g, 2, none⟩ = some (.slice (some ⟨gl, 0, none⟩) r.list.length yL) ∧ W.cell? ⟨w.heap.size, 0, none⟩ = some (.int .i64 J.acc) ∧ W.cell? ⟨w.heap.size, 1, none⟩ = some (.slice XJ J.regs.length yJ)) [8] flowC.tab6 flowC.bits6 ⟨(blk_cell RD.out.box 2).trans rfl, (MD.out.box EN.out 0).trans rfl, (MD.out.box EN.out 1).trans rfl⟩ (fun HT_ HW_ hHeld => ?_)
        generalize wq7.drew = wd8 at MD RD SD BD lw hHeld ⊢
        refine pz 0 56 ?_; refine pz 1 57 ?_; refine pz 2 58 ?_; refine pz 4 60 ?_; refine tz 3 59 ?_; refine tz 5 61 ?_
        refine ez 6 (some 62) (fun K hK => ?_)
        refine gz Try.func102 #[.agg #[.int .i64 J.acc, .slice XJ J.regs.length yJ]] ?_
        refine (cCopy J _ _ SD.out.K (by omega)).mono ?_; rintro e w7 ⟨ds, rfl, hm, hb⟩; obtain ⟨v, rfl, hr7⟩ := kStateI_openM hm; obtain ⟨X7, y7, rfl⟩ := Kd.R_slice hr7; clear hr7
        have SN := Aside0.mk (SOk.new (g := g) (lo := lo) (vt := .slice AT nq yT) hm (Nat.le_of_lt (Nat.lt_of_le_of_lt (Kd.R_base RD.out.L gl (by simp [Value.ownBlock])) (Kd.R_lt RD.out.L gl (by simp [Value.ownBlock])))) lw.1 lw.2); have FN := Aside0.mk (RD.out.fresh hb (Nat.le_of_lt (Nat.lt_of_le_of_lt (Kd.R_base RD.out.L gl (by simp [Value.ownBlock])) (Kd.R_lt RD.out.L gl (by simp [Value.ownBlock])))) hm)
        have MC := Aside0.mk (MD.out.step hb); have RC := Aside0.mk (RD.out.step hb); have BC := Aside0.mk (below_step BD.out hb); clear hm hb
        obtain ⟨c, hcl, _, hcc, hcf⟩ := Kd.R_elem RC.out.L zState (p : Int) (by omega) (by omega)
        obtain ⟨c0, c1, rfl⟩ : ∃ c0 c1, c = [c0, c1] := by cases c with | nil => cases hcl | cons c0 c => cases c with | nil => cases hcl | cons c1 c => cases c with | nil => exact ⟨c0, c1, rfl⟩ | cons _ _ => cases hcl
        have k0 : w7.cell? ⟨gl, p * 2, none⟩ = some c0 := hcc 0 c0 rfl
        have k1 : w7.cell? ⟨gl, p * 2 + 1, none⟩ = some c1 := hcc 1 c1 rfl
        have k2 : w7.frozen? ⟨gl, p * 2, none⟩ = false := hcf 0
        have k3 : w7.frozen? ⟨gl, p * 2 + 1, none⟩ = false := hcf 1
        clear hcl hcc hcf
        refine ⟨_, rfl, ?_⟩
        refine hK.out _ _ ⟨(blk_cell RC.out.box 2).trans rfl, (MC.out.box EN.out 0).trans rfl, (MC.out.box EN.out 1).trans rfl⟩ (fun hHeld => ?_); clear hK K; refine kz (some 62) ?_
        refine pz 7 63 ?_
        refine lz 8 none (fun K hK => ?_)
        refine skip_ (w1 := ?_) (by rfl) rfl ?_ ?_
        rotate_left
        · go_simp
          rfl
        refine hK.out _ _ ?_; clear hK K
        refine dz ?_
        clear k0 k1 k2 k3
        have P1 := Run.putL RC.out (by decide) p hlt SN.out FN.out
        obtain ⟨W2, hW2⟩ : ∃ W2, W2 = (w7.setCell ⟨gl, p * 2, none⟩ (.int .i64 J.acc)).setCell ⟨gl, p * 2 + 1, none⟩ (.slice X7 J.regs.length y7) := ⟨_, rfl⟩
        rw [← hW2]
        have RP2 := Aside0.mk (show Run 149 #[px, pf, .slice (some ⟨gl, 0, none⟩) r.list.length yL, .slice (some ⟨gr, 0, none⟩) r.reached.length yR, .slice AT nq yT, .bool r.bad] d g lo w0 W2 { r with list := r.list.set p J } (.slice (some ⟨gl, 0, none⟩) r.list.length yL) (.slice (some ⟨gr, 0, none⟩) r.reached.length yR) (.slice AT nq yT) from hW2 ▸ P1.1)
        have SS2 := Aside0.mk (show ∀ s' cs', SOk g lo w (.slice AT nq yT) s' cs' → SOk g lo W2 (.slice AT nq yT) s' cs' from fun s' cs' h => hW2 ▸ P1.2.1 s' cs' (h.step BC.out))
        have KB2 := Aside0.mk (show ∀ q o, BOk g (.slice (some ⟨gl, 0, none⟩) r.list.length yL) (.slice (some ⟨gr, 0, none⟩) r.reached.length yR) (.slice AT nq yT) w q o → BOk g (.slice (some ⟨gl, 0, none⟩) r.list.length yL) (.slice (some ⟨gr, 0, none⟩) r.reached.length yR) (.slice AT nq yT) W2 q o from fun q o h => hW2 ▸ P1.2.2 q o (h.step BC.out))
        clear P1 hW2
        have v2 := (blk_cell RP2.out.box 2).trans rfl
        have v3 := (blk_cell RP2.out.box 3).trans rfl
        have v4 := (blk_cell RP2.out.box 4).trans rfl
        have v5 := (blk_cell RP2.out.box 5).trans rfl
        have x1 : W2.cell? ⟨gr, p, none⟩ = some (.bool _) := (Kd.R_celln false RP2.out.B (p : Int) (by omega) (by omega)).1; have x2 : W2.frozen? ⟨gr, p, none⟩ = false := (Kd.R_celln false RP2.out.B (p : Int) (by omega) (by omega)).2
        have P2 := Run.putB RP2.out p (by show p < r.reached.length; omega)
        go_upto_region 8 with fail
        clear x1 x2 v2 v3 v4 v5
        generalize W2.setCell ⟨gr, p, none⟩ (.bool true) = W3 at P2 ⊢
        have RP3 := Aside0.mk P2.1; have SS3 := Aside0.mk (fun s' cs' h => P2.2.1 s' cs' (SS2.out s' cs' h)); have KB3 := Aside0.mk (fun q o h => P2.2.2 q o (KB2.out q o h)); clear P2 RP2 SS2 KB2
        have v2 := (blk_cell RP3.out.box 2).trans rfl
        have v3 := (blk_cell RP3.out.box 3).trans rfl
        have v4 := (blk_cell RP3.out.box 4).trans rfl
        have v5 := (blk_cell RP3.out.box 5).trans rfl
        have hbl : w0.heap.size ≤ lo := RP3.out.hlo
        go_wp2_with (((with_reducible refine gate_builtin (b := .append) (xs := #[.tmp 74, .tmp 76]) rfl ?_); at_builtin; refine Aside0.out ?_))
        refine ⟨?_⟩
        clear v2 v3 v4 v5
        have hlt3 := RP3.out.lt
        refine Kd.Q_append (Kd.int .i64) (w0 := W3) lo rfl (.tmp 74) (.tmp 76) 26 3 (.int .i64 0) 8 rfl Try.underlying26 info3 rfl (by decide) (by decide) (.slice AT nq yT) (r.queue.drop d) (p : Int) [.int .i64 (p : Int)] (fun b => b ≠ g) (fun _ => False) ?aV ?aX rfl (fun _ h => h.elim) (fun k hk e => by have := hlt3.1; omega) RP3.out.Q (Below.refl _ _) (Nat.le_of_lt (Nat.lt_of_le_of_lt (Kd.R_base RP3.out.L gl (by simp [Value.ownBlock])) (Kd.R_lt RP3.out.L gl (by simp [Value.ownBlock])))) (by rw [List.length_drop]; omega) ?_
        case aV => first | rfl | (go_simp; done) | (go_simp; rfl)
        case aX => first | rfl | (go_simp; done) | (go_simp; rfl)
        intro v9 w9 hq9 hb9 hg9 hat9
        obtain ⟨A9, y9, hv9, _⟩ := Kd.Q_slice hq9
        obtain ⟨n9, hn9⟩ : ∃ n9 : Nat, (r.queue.drop d ++ [(p : Int)]).length = n9 := ⟨_, rfl⟩
        rw [hn9] at hv9; subst hv9
        have P4 := RP3.out.app (p : Int) hd (by decide) hq9 (RP3.out.below.trans ⟨hb9.os, hb9.tape, hb9.output, hb9.size, fun i hi => hb9.block i (Nat.lt_of_lt_of_le hi hbl)⟩) hg9 hat9
        have RP4 := Aside0.mk P4.1; have SS4 := Aside0.mk (fun s' cs' h => P4.2.1 s' cs' (SS3.out s' cs' h)); have KB4 := Aside0.mk (fun q o h => P4.2.2 q o (KB3.out q o h)); clear P4 RP3 SS3 KB3 hq9 hb9 hg9 hat9 hlt3
        have v2 := (blk_cell RP4.out.box 4).trans rfl; have v3 := blk_frozen RP4.out.box 4
        go_wp2
        first | go_end0 | ((try simp only [Exit.inBlock, Exit.then]); refine bodyPost_ret (results_none rfl _ _ _) rfl ?_)
        have RF : Run 149 #[px, pf, (.slice (some ⟨gl, 0, none⟩) r.list.length yL), (.slice (some ⟨gr, 0, none⟩) r.reached.length yR), .slice A9 n9 y9, .bool r.bad] d g lo w0 (w9.setCell ⟨g, 4, none⟩ (.slice A9 n9 y9)) (come r p s) (.slice (some ⟨gl, 0, none⟩) r.list.length yL) (.slice (some ⟨gr, 0, none⟩) r.reached.length yR) (.slice A9 n9 y9) := (RP4.out.set 4 (.slice A9 n9 y9) rfl).as (by rw [HCE.out]) (by rw [HCE.out]) (by rw [HCE.out])
        have hbd : (come r p s).bad = r.bad := by rw [HCE.out]
        rw [hbd]
        first | exact ⟨_, rfl, RF, fun s' cs' h => (SS4.out s' cs' h).set _ _, fun q o h => (KB4.out q o h).set _ _⟩ | exact ⟨rfl, _, RF, fun s' cs' h => (SS4.out s' cs' h).set _ _, fun q o h => (KB4.out q o h).set _ _⟩
    · have ht1 : (J.acc == a.acc) = false := by simpa using hacc
      have HJA := Aside0.mk (show ¬ J = a from fun e => hacc (by rw [e])); clear hacc
      go_upto_region 5 with fail
      obtain ⟨L, HL, ML⟩ := Mem.hide M6
      have EW := Aside0.mk (show Hold.box w.heap.size #[.int .i64 J.acc, .slice XJ J.regs.length yJ] 31 ∈ L from HL.out ▸ (.tail _ (.head _)))
      have MD := Aside0.mk ML.out.drew; have SD := Aside0.mk (SJ.out.step (below_drew1 (Below.refl _ _)))
      clear M6 ML HVJ SJ
      refine sz 24 (fun W => W.cell? ⟨g, 2, none⟩ = some (.slice (some ⟨gl, 0, none⟩) r.list.length yL) ∧ W.cell? ⟨gl, p * 2, none⟩ = some (.int .i64 a.acc) ∧ W.cell? ⟨gl, p * 2 + 1, none⟩ = some (.slice AA a.regs.length yA) ∧ W.cell? ⟨w.heap.size, 0, none⟩ = some (.int .i64 J.acc) ∧ W.cell? ⟨w.heap.size, 1, none⟩ = some (.slice XJ J.regs.length yJ)) [] flowC.tab5 flowC.bits5 ⟨(blk_cell (HR.out.step MD.out.below).box 2).trans rfl, pw_cell_below MD.out.below E0.out, pw_cell_below MD.out.below E1.out, (MD.out.box EW.out 0).trans rfl, (MD.out.box EW.out 1).trans rfl⟩ (fun HT_ HW_ hHeld => ?_)
      generalize W6.drew = wd6 at MD SD hHeld ⊢
      refine pz 0 32 ?_; refine pz 2 34 ?_; refine pz 3 35 ?_; refine pz 4 36 ?_; refine pz 6 38 ?_; refine tz 1 33 ?_; refine tz 5 37 ?_; refine pz 7 39 ?_; refine pz 8 40 ?_; refine tz 9 41 ?_; refine pz 10 42 ?_; refine pz 11 43 ?_; refine oz 12 44 ?_; refine oz 13 45 ?_; refine oz 14 46 ?_; refine oz 15 47 ?_; refine oz 16 48 ?_; refine oz 17 49 ?_; refine oz 18 50 ?_; refine oz 19 51 ?_; refine oz 20 52 ?_; refine oz 21 53 ?_; refine oz 22 54 ?_; refine pz 23 55 ?_
      refine dz ?_
      have HCE := Aside0.mk (show come r p s = { r with list := r.list.set p J, reached := r.reached.set p true, queue := r.queue ++ [(p : Int)] } by unfold come; rw [if_neg (by omega), ← HRB.out, if_pos rfl, ← HA.out, ← HJ.out, if_neg HJA.out])
      have hl := HL.out; subst hl; clear HL EW
      have M7 := MD; have S7 := SD; clear MD SD
      go_upto_region 6 with fail
      have BB := Aside0.mk M7.out.below; have RR := Aside0.mk (HR.out.step BB.out)
      obtain ⟨L, HL, ML⟩ := Mem.hide M7
      have EN := Aside0.mk (show Hold.box (w.heap.size) #[.int .i64 J.acc, .slice XJ J.regs.length yJ] 31 ∈ L from HL.out ▸ (.tail _ (.head _)))
      have MD := Aside0.mk ML.out.drew; have RD := Aside0.mk (RR.out.step (below_drew1 (Below.refl _ _))); have SD := Aside0.mk (S7.out.step (below_drew1 (Below.refl _ _))); have BD := Aside0.mk (below_drew1 BB.out)
      clear M7 RR BB S7 ML
      have lw := RD.out.lt
      refine sz 9 (fun W => W.cell? ⟨g, 2, none⟩ = some (.slice (some ⟨gl, 0, none⟩) r.list.length yL) ∧ W.cell? ⟨w.heap.size, 0, none⟩ = some (.int .i64 J.acc) ∧ W.cell? ⟨w.heap.size, 1, none⟩ = some (.slice XJ J.regs.length yJ)) [8] flowC.tab6 flowC.bits6 ⟨(blk_cell RD.out.box 2).trans rfl, (MD.out.box EN.out 0).trans rfl, (MD.out.box EN.out 1).trans rfl⟩ (fun HT_ HW_ hHeld => ?_)
      generalize wd6.drew = wd8 at MD RD SD BD lw hHeld ⊢
      refine pz 0 56 ?_; refine pz 1 57 ?_; refine pz 2 58 ?_; refine pz 4 60 ?_; refine tz 3 59 ?_; refine tz 5 61 ?_
      refine ez 6 (some 62) (fun K hK => ?_)
      refine gz Try.func102 #[.agg #[.int .i64 J.acc, .slice XJ J.regs.length yJ]] ?_
      refine (cCopy J _ _ SD.out.K (by omega)).mono ?_; rintro e w7 ⟨ds, rfl, hm, hb⟩; obtain ⟨v, rfl, hr7⟩ := kStateI_openM hm; obtain ⟨X7, y7, rfl⟩ := Kd.R_slice hr7; clear hr7
      have SN := Aside0.mk (SOk.new (g := g) (lo := lo) (vt := .slice AT nq yT) hm (Nat.le_of_lt (Nat.lt_of_le_of_lt (Kd.R_base RD.out.L gl (by simp [Value.ownBlock])) (Kd.R_lt RD.out.L gl (by simp [Value.ownBlock])))) lw.1 lw.2); have FN := Aside0.mk (RD.out.fresh hb (Nat.le_of_lt (Nat.lt_of_le_of_lt (Kd.R_base RD.out.L gl (by simp [Value.ownBlock])) (Kd.R_lt RD.out.L gl (by simp [Value.ownBlock])))) hm)
      have MC := Aside0.mk (MD.out.step hb); have RC := Aside0.mk (RD.out.step hb); have BC := Aside0.mk (below_step BD.out hb); clear hm hb
      obtain ⟨c, hcl, _, hcc, hcf⟩ := Kd.R_elem RC.out.L zState (p : Int) (by omega) (by omega)
      obtain ⟨c0, c1, rfl⟩ : ∃ c0 c1, c = [c0, c1] := by cases c with | nil => cases hcl | cons c0 c => cases c with | nil => cases hcl | cons c1 c => cases c with | nil => exact ⟨c0, c1, rfl⟩ | cons _ _ => cases hcl
      have k0 : w7.cell? ⟨gl, p * 2, none⟩ = some c0 := hcc 0 c0 rfl
      have k1 : w7.cell? ⟨gl, p * 2 + 1, none⟩ = some c1 := hcc 1 c1 rfl
      have k2 : w7.frozen? ⟨gl, p * 2, none⟩ = false := hcf 0
      have k3 : w7.frozen? ⟨gl, p * 2 + 1, none⟩ = false := hcf 1
      clear hcl hcc hcf
      refine ⟨_, rfl, ?_⟩
      refine hK.out _ _ ⟨(blk_cell RC.out.box 2).trans rfl, (MC.out.box EN.out 0).trans rfl, (MC.out.box EN.out 1).trans rfl⟩ (fun hHeld => ?_); clear hK K; refine kz (some 62) ?_
      refine pz 7 63 ?_
      refine lz 8 none (fun K hK => ?_)
      refine skip_ (w1 := ?_) (by rfl) rfl ?_ ?_
      rotate_left
      · go_simp
        rfl
      refine hK.out _ _ ?_; clear hK K
      refine dz ?_
      clear k0 k1 k2 k3
      have P1 := Run.putL RC.out (by decide) p hlt SN.out FN.out
      obtain ⟨W2, hW2⟩ : ∃ W2, W2 = (w7.setCell ⟨gl, p * 2, none⟩ (.int .i64 J.acc)).setCell ⟨gl, p * 2 + 1, none⟩ (.slice X7 J.regs.length y7) := ⟨_, rfl⟩
      rw [← hW2]
      have RP2 := Aside0.mk (show Run 149 #[px, pf, .slice (some ⟨gl, 0, none⟩) r.list.length yL, .slice (some ⟨gr, 0, none⟩) r.reached.length yR, .slice AT nq yT, .bool r.bad] d g lo w0 W2 { r with list := r.list.set p J } (.slice (some ⟨gl, 0, none⟩) r.list.length yL) (.slice (some ⟨gr, 0, none⟩) r.reached.length yR) (.slice AT nq yT) from hW2 ▸ P1.1)
      have SS2 := Aside0.mk (show ∀ s' cs', SOk g lo w (.slice AT nq yT) s' cs' → SOk g lo W2 (.slice AT nq yT) s' cs' from fun s' cs' h => hW2 ▸ P1.2.1 s' cs' (h.step BC.out))
      have KB2 := Aside0.mk (show ∀ q o, BOk g (.slice (some ⟨gl, 0, none⟩) r.list.length yL) (.slice (some ⟨gr, 0, none⟩) r.reached.length yR) (.slice AT nq yT) w q o → BOk g (.slice (some ⟨gl, 0, none⟩) r.list.length yL) (.slice (some ⟨gr, 0, none⟩) r.reached.length yR) (.slice AT nq yT) W2 q o from fun q o h => hW2 ▸ P1.2.2 q o (h.step BC.out))
      clear P1 hW2
      have v2 := (blk_cell RP2.out.box 2).trans rfl
      have v3 := (blk_cell RP2.out.box 3).trans rfl
      have v4 := (blk_cell RP2.out.box 4).trans rfl
      have v5 := (blk_cell RP2.out.box 5).trans rfl
      have x1 : W2.cell? ⟨gr, p, none⟩ = some (.bool _) := (Kd.R_celln false RP2.out.B (p : Int) (by omega) (by omega)).1; have x2 : W2.frozen? ⟨gr, p, none⟩ = false := (Kd.R_celln false RP2.out.B (p : Int) (by omega) (by omega)).2
      have P2 := Run.putB RP2.out p (by show p < r.reached.length; omega)
      go_upto_region 8 with fail
      clear x1 x2 v2 v3 v4 v5
      generalize W2.setCell ⟨gr, p, none⟩ (.bool true) = W3 at P2 ⊢
      have RP3 := Aside0.mk P2.1; have SS3 := Aside0.mk (fun s' cs' h => P2.2.1 s' cs' (SS2.out s' cs' h)); have KB3 := Aside0.mk (fun q o h => P2.2.2 q o (KB2.out q o h)); clear P2 RP2 SS2 KB2
      have v2 := (blk_cell RP3.out.box 2).trans rfl
      have v3 := (blk_cell RP3.out.box 3).trans rfl
      have v4 := (blk_cell RP3.out.box 4).trans rfl
      have v5 := (blk_cell RP3.out.box 5).trans rfl
      have hbl : w0.heap.size ≤ lo := RP3.out.hlo
      go_wp2_with (((with_reducible refine gate_builtin (b := .append) (xs := #[.tmp 74, .tmp 76]) rfl ?_); at_builtin; refine Aside0.out ?_))
      refine ⟨?_⟩
      clear v2 v3 v4 v5
      have hlt3 := RP3.out.lt
      refine Kd.Q_append (Kd.int .i64) (w0 := W3) lo rfl (.tmp 74) (.tmp 76) 26 3 (.int .i64 0) 8 rfl Try.underlying26 info3 rfl (by decide) (by decide) (.slice AT nq yT) (r.queue.drop d) (p : Int) [.int .i64 (p : Int)] (fun b => b ≠ g) (fun _ => False) ?aV ?aX rfl (fun _ h => h.elim) (fun k hk e => by have := hlt3.1; omega) RP3.out.Q (Below.refl _ _) (Nat.le_of_lt (Nat.lt_of_le_of_lt (Kd.R_base RP3.out.L gl (by simp [Value.ownBlock])) (Kd.R_lt RP3.out.L gl (by simp [Value.ownBlock])))) (by rw [List.length_drop]; omega) ?_
      case aV => first | rfl | (go_simp; done) | (go_simp; rfl)
      case aX => first | rfl | (go_simp; done) | (go_simp; rfl)
      intro v9 w9 hq9 hb9 hg9 hat9
      obtain ⟨A9, y9, hv9, _⟩ := Kd.Q_slice hq9
      obtain ⟨n9, hn9⟩ : ∃ n9 : Nat, (r.queue.drop d ++ [(p : Int)]).length = n9 := ⟨_, rfl⟩
      rw [hn9] at hv9; subst hv9
      have P4 := RP3.out.app (p : Int) hd (by decide) hq9 (RP3.out.below.trans ⟨hb9.os, hb9.tape, hb9.output, hb9.size, fun i hi => hb9.block i (Nat.lt_of_lt_of_le hi hbl)⟩) hg9 hat9
      have RP4 := Aside0.mk P4.1; have SS4 := Aside0.mk (fun s' cs' h => P4.2.1 s' cs' (SS3.out s' cs' h)); have KB4 := Aside0.mk (fun q o h => P4.2.2 q o (KB3.out q o h)); clear P4 RP3 SS3 KB3 hq9 hb9 hg9 hat9 hlt3
      have v2 := (blk_cell RP4.out.box 4).trans rfl; have v3 := blk_frozen RP4.out.box 4
      go_wp2
      first | go_end0 | ((try simp only [Exit.inBlock, Exit.then]); refine bodyPost_ret (results_none rfl _ _ _) rfl ?_)
      have RF : Run 149 #[px, pf, (.slice (some ⟨gl, 0, none⟩) r.list.length yL), (.slice (some ⟨gr, 0, none⟩) r.reached.length yR), .slice A9 n9 y9, .bool r.bad] d g lo w0 (w9.setCell ⟨g, 4, none⟩ (.slice A9 n9 y9)) (come r p s) (.slice (some ⟨gl, 0, none⟩) r.list.length yL) (.slice (some ⟨gr, 0, none⟩) r.reached.length yR) (.slice A9 n9 y9) := (RP4.out.set 4 (.slice A9 n9 y9) rfl).as (by rw [HCE.out]) (by rw [HCE.out]) (by rw [HCE.out])
      have hbd : (come r p s).bad = r.bad := by rw [HCE.out]
      rw [hbd]
      first | exact ⟨_, rfl, RF, fun s' cs' h => (SS4.out s' cs' h).set _ _, fun q o h => (KB4.out q o h).set _ _⟩ | exact ⟨rfl, _, RF, fun s' cs' h => (SS4.out s' cs' h).set _ _, fun q o h => (KB4.out q o h).set _ _⟩
  · subst hb1
    have HCE := Aside0.mk (show come r p s = { r with list := r.list.set p s, reached := r.reached.set p true, queue := r.queue ++ [(p : Int)] } by unfold come; rw [if_neg (by omega), ← hrb]; rfl)
    clear hrb
    go_upto_region 6 with fail
    clear z0 z1 q2 q3 q4 q5 f3 x0
    generalize (w.alloc (.cells #[.int .i64 s.acc, .slice AS s.regs.length yS] 31)) = wq at M1 S1 ⊢
    have BB := Aside0.mk M1.out.below; have RR := Aside0.mk (HR.out.step BB.out)
    obtain ⟨L, HL, ML⟩ := Mem.hide M1
    have EN := Aside0.mk (show Hold.box (w.heap.size) #[.int .i64 s.acc, .slice AS s.regs.length yS] 31 ∈ L from HL.out ▸ (.head _))
    have MD := Aside0.mk ML.out.drew; have RD := Aside0.mk (RR.out.step (below_drew1 (Below.refl _ _))); have SD := Aside0.mk (S1.out.step (below_drew1 (Below.refl _ _))); have BD := Aside0.mk (below_drew1 BB.out)
    clear M1 RR BB S1 ML
    have lw := RD.out.lt
    refine sz 9 (fun W => W.cell? ⟨g, 2, none⟩ = some (.slice (some ⟨gl, 0, none⟩) r.list.length yL) ∧ W.cell? ⟨w.heap.size, 0, none⟩ = some (.int .i64 s.acc) ∧ W.cell? ⟨w.heap.size, 1, none⟩ = some (.slice AS s.regs.length yS)) [8] flowC.tab6 flowC.bits6 ⟨(blk_cell RD.out.box 2).trans rfl, (MD.out.box EN.out 0).trans rfl, (MD.out.box EN.out 1).trans rfl⟩ (fun HT_ HW_ hHeld => ?_)
    generalize wq.drew = wd8 at MD RD SD BD lw hHeld ⊢
    refine pz 0 56 ?_; refine pz 1 57 ?_; refine pz 2 58 ?_; refine pz 4 60 ?_; refine tz 3 59 ?_; refine tz 5 61 ?_
    refine ez 6 (some 62) (fun K hK => ?_)
    refine gz Try.func102 #[.agg #[.int .i64 s.acc, .slice AS s.regs.length yS]] ?_
    refine (cCopy s _ _ SD.out.K (by omega)).mono ?_; rintro e w7 ⟨ds, rfl, hm, hb⟩; obtain ⟨v, rfl, hr7⟩ := kStateI_openM hm; obtain ⟨X7, y7, rfl⟩ := Kd.R_slice hr7; clear hr7
    have SN := Aside0.mk (SOk.new (g := g) (lo := lo) (vt := .slice AT nq yT) hm (Nat.le_of_lt (Nat.lt_of_le_of_lt (Kd.R_base RD.out.L gl (by simp [Value.ownBlock])) (Kd.R_lt RD.out.L gl (by simp [Value.ownBlock])))) lw.1 lw.2); have FN := Aside0.mk (RD.out.fresh hb (Nat.le_of_lt (Nat.lt_of_le_of_lt (Kd.R_base RD.out.L gl (by simp [Value.ownBlock])) (Kd.R_lt RD.out.L gl (by simp [Value.ownBlock])))) hm)
    have MC := Aside0.mk (MD.out.step hb); have RC := Aside0.mk (RD.out.step hb); have BC := Aside0.mk (below_step BD.out hb); clear hm hb
    obtain ⟨c, hcl, _, hcc, hcf⟩ := Kd.R_elem RC.out.L zState (p : Int) (by omega) (by omega)
    obtain ⟨c0, c1, rfl⟩ : ∃ c0 c1, c = [c0, c1] := by cases c with | nil => cases hcl | cons c0 c => cases c with | nil => cases hcl | cons c1 c => cases c with | nil => exact ⟨c0, c1, rfl⟩ | cons _ _ => cases hcl
    have k0 : w7.cell? ⟨gl, p * 2, none⟩ = some c0 := hcc 0 c0 rfl
    have k1 : w7.cell? ⟨gl, p * 2 + 1, none⟩ = some c1 := hcc 1 c1 rfl
    have k2 : w7.frozen? ⟨gl, p * 2, none⟩ = false := hcf 0
    have k3 : w7.frozen? ⟨gl, p * 2 + 1, none⟩ = false := hcf 1
    clear hcl hcc hcf
    refine ⟨_, rfl, ?_⟩
    refine hK.out _ _ ⟨(blk_cell RC.out.box 2).trans rfl, (MC.out.box EN.out 0).trans rfl, (MC.out.box EN.out 1).trans rfl⟩ (fun hHeld => ?_); clear hK K; refine kz (some 62) ?_
    refine pz 7 63 ?_
    refine lz 8 none (fun K hK => ?_)
    refine skip_ (w1 := ?_) (by rfl) rfl ?_ ?_
    rotate_left
    · go_simp
      rfl
    refine hK.out _ _ ?_; clear hK K
    refine dz ?_
    clear k0 k1 k2 k3
    have P1 := Run.putL RC.out (by decide) p hlt SN.out FN.out
    obtain ⟨W2, hW2⟩ : ∃ W2, W2 = (w7.setCell ⟨gl, p * 2, none⟩ (.int .i64 s.acc)).setCell ⟨gl, p * 2 + 1, none⟩ (.slice X7 s.regs.length y7) := ⟨_, rfl⟩
    rw [← hW2]
    have RP2 := Aside0.mk (show Run 149 #[px, pf, .slice (some ⟨gl, 0, none⟩) r.list.length yL, .slice (some ⟨gr, 0, none⟩) r.reached.length yR, .slice AT nq yT, .bool r.bad] d g lo w0 W2 { r with list := r.list.set p s } (.slice (some ⟨gl, 0, none⟩) r.list.length yL) (.slice (some ⟨gr, 0, none⟩) r.reached.length yR) (.slice AT nq yT) from hW2 ▸ P1.1)
    have SS2 := Aside0.mk (show ∀ s' cs', SOk g lo w (.slice AT nq yT) s' cs' → SOk g lo W2 (.slice AT nq yT) s' cs' from fun s' cs' h => hW2 ▸ P1.2.1 s' cs' (h.step BC.out))
    have KB2 := Aside0.mk (show ∀ q o, BOk g (.slice (some ⟨gl, 0, none⟩) r.list.length yL) (.slice (some ⟨gr, 0, none⟩) r.reached.length yR) (.slice AT nq yT) w q o → BOk g (.slice (some ⟨gl, 0, none⟩) r.list.length yL) (.slice (some ⟨gr, 0, none⟩) r.reached.length yR) (.slice AT nq yT) W2 q o from fun q o h => hW2 ▸ P1.2.2 q o (h.step BC.out))
    clear P1 hW2
    have v2 := (blk_cell RP2.out.box 2).trans rfl
    have v3 := (blk_cell RP2.out.box 3).trans rfl
    have v4 := (blk_cell RP2.out.box 4).trans rfl
    have v5 := (blk_cell RP2.out.box 5).trans rfl
    have x1 : W2.cell? ⟨gr, p, none⟩ = some (.bool _) := (Kd.R_celln false RP2.out.B (p : Int) (by omega) (by omega)).1; have x2 : W2.frozen? ⟨gr, p, none⟩ = false := (Kd.R_celln false RP2.out.B (p : Int) (by omega) (by omega)).2
    have P2 := Run.putB RP2.out p (by show p < r.reached.length; omega)
    go_upto_region 8 with fail
    clear x1 x2 v2 v3 v4 v5
    generalize W2.setCell ⟨gr, p, none⟩ (.bool true) = W3 at P2 ⊢
    have RP3 := Aside0.mk P2.1; have SS3 := Aside0.mk (fun s' cs' h => P2.2.1 s' cs' (SS2.out s' cs' h)); have KB3 := Aside0.mk (fun q o h => P2.2.2 q o (KB2.out q o h)); clear P2 RP2 SS2 KB2
    have v2 := (blk_cell RP3.out.box 2).trans rfl
    have v3 := (blk_cell RP3.out.box 3).trans rfl
    have v4 := (blk_cell RP3.out.box 4).trans rfl
    have v5 := (blk_cell RP3.out.box 5).trans rfl
    have hbl : w0.heap.size ≤ lo := RP3.out.hlo
    go_wp2_with (((with_reducible refine gate_builtin (b := .append) (xs := #[.tmp 74, .tmp 76]) rfl ?_); at_builtin; refine Aside0.out ?_))
    refine ⟨?_⟩
    clear v2 v3 v4 v5
    have hlt3 := RP3.out.lt
    refine Kd.Q_append (Kd.int .i64) (w0 := W3) lo rfl (.tmp 74) (.tmp 76) 26 3 (.int .i64 0) 8 rfl Try.underlying26 info3 rfl (by decide) (by decide) (.slice AT nq yT) (r.queue.drop d) (p : Int) [.int .i64 (p : Int)] (fun b => b ≠ g) (fun _ => False) ?aV ?aX rfl (fun _ h => h.elim) (fun k hk e => by have := hlt3.1; omega) RP3.out.Q (Below.refl _ _) (Nat.le_of_lt (Nat.lt_of_le_of_lt (Kd.R_base RP3.out.L gl (by simp [Value.ownBlock])) (Kd.R_lt RP3.out.L gl (by simp [Value.ownBlock])))) (by rw [List.length_drop]; omega) ?_
    case aV => first | rfl | (go_simp; done) | (go_simp; rfl)
    case aX => first | rfl | (go_simp; done) | (go_simp; rfl)
    intro v9 w9 hq9 hb9 hg9 hat9
    obtain ⟨A9, y9, hv9, _⟩ := Kd.Q_slice hq9
    obtain ⟨n9, hn9⟩ : ∃ n9 : Nat, (r.queue.drop d ++ [(p : Int)]).length = n9 := ⟨_, rfl⟩
    rw [hn9] at hv9; subst hv9
    have P4 := RP3.out.app (p : Int) hd (by decide) hq9 (RP3.out.below.trans ⟨hb9.os, hb9.tape, hb9.output, hb9.size, fun i hi => hb9.block i (Nat.lt_of_lt_of_le hi hbl)⟩) hg9 hat9
    have RP4 := Aside0.mk P4.1; have SS4 := Aside0.mk (fun s' cs' h => P4.2.1 s' cs' (SS3.out s' cs' h)); have KB4 := Aside0.mk (fun q o h => P4.2.2 q o (KB3.out q o h)); clear P4 RP3 SS3 KB3 hq9 hb9 hg9 hat9 hlt3
    have v2 := (blk_cell RP4.out.box 4).trans rfl; have v3 := blk_frozen RP4.out.box 4
    go_wp2
    first | go_end0 | ((try simp only [Exit.inBlock, Exit.then]); refine bodyPost_ret (results_none rfl _ _ _) rfl ?_)
    have RF : Run 149 #[px, pf, (.slice (some ⟨gl, 0, none⟩) r.list.length yL), (.slice (some ⟨gr, 0, none⟩) r.reached.length yR), .slice A9 n9 y9, .bool r.bad] d g lo w0 (w9.setCell ⟨g, 4, none⟩ (.slice A9 n9 y9)) (come r p s) (.slice (some ⟨gl, 0, none⟩) r.list.length yL) (.slice (some ⟨gr, 0, none⟩) r.reached.length yR) (.slice A9 n9 y9) := (RP4.out.set 4 (.slice A9 n9 y9) rfl).as (by rw [HCE.out]) (by rw [HCE.out]) (by rw [HCE.out])
    have hbd : (come r p s).bad = r.bad := by rw [HCE.out]
    rw [hbd]
    first | exact ⟨_, rfl, RF, fun s' cs' h => (SS4.out s' cs' h).set _ _, fun q o h => (KB4.out q o h).set _ _⟩ | exact ⟨rfl, _, RF, fun s' cs' h => (SS4.out s' cs' h).set _ _, fun q o h => (KB4.out q o h).set _ _⟩
end Go.Proofs.Ytcbaokflimdjnaa.Flow
end
section
namespace Go.Proofs.Ytcbaokflimdjnaa.Flow
open Go.RowKit Go.Proofs.YtcbaokflimdjnaaW.PrintWords Go.Proofs.YtcbaokflimdjnaaW.PrintLast Go.Proofs.Ytcbaokflimdjnaa.Steps Go.Proofs.YtcbaokflimdjnaaW.PrintMore Go.Proofs.Ytcbaokflimdjnaa.Law Go.Proofs.Ytcbaokflimdjnaa Go.Proofs.Ytcbaokflimdjnaa.QFnExactVerify Go.Proofs.Ytcbaokflimdjnaa.Num Go.Proofs.Ytcbaokflimdjnaa.PureJoin
set_option linter.unusedVariables false
set_option linter.unusedSimpArgs false
set_option autoImplicit false
def goI.T10 : Bool × List (List Nat × List Nat) := (true, [([], []), ([], []), ([1], [1]), ([2], [2]), ([3], [3]), ([], []), ([5], [5]), ([6], [6]), ([7], [7]), ([], []), ([0, 4, 8, 9], [0, 4, 8, 9]), ([10], [10]), ([11], [11]), ([11], [11]), ([], []), ([14, 12, 10, 0, 1, 2, 3, 4, 5, 6, 7, 8, 9, 10, 11, 12, 14], [12, 14]), ([13, 15, 0, 1, 2, 3, 4, 5, 6, 7, 8, 9, 10, 11, 12, 13, 14, 15], [13])])
def goI.B10 : List Nat := [0, 0, 2, 6, 14, 0, 32, 96, 224, 0, 1023, 2047, 4095, 4095, 0, 24575, 65535]
theorem goI.tab10 : rtab .any (opsOf Try.f112 10) = goI.T10 := by kernel_rfl
theorem goI.bits10 : waitsOk goI.T10.2 goI.B10 = true := by kernel_rfl
set_option maxHeartbeats 8000000 in
set_option maxRecDepth 100000 in
theorem cGo1 (x : Image) (j : Nat) (ok : FnOk x (el zFunc x.funcs j)) (hj : j < x.funcs.length) (gx : Nat) (fa : Addr) (c0 : Nat) (A1 : Option Addr) (c1 : Nat) (g lo : Nat) (w0 w : World) (hx0 : w0.cell? ⟨gx, 0, none⟩ = some (.slice (some fa) x.funcs.length c0)) (hx1 : w0.cell? ⟨gx, 1, none⟩ = some (.slice A1 x.consts.length c1)) (g0 : kFuncI.C w0 (some fa) x.funcs.length x.funcs) (r : Fl) (vl vr vt : Value) (hr : Run 149 #[.pointer (some ⟨gx, 0, none⟩), .pointer (some (fa.add (j * 5))), vl, vr, vt, .bool r.bad] 0 g lo w0 w r vl vr vt) (hI : Inv (el zFunc x.funcs j).code.length (el zFunc x.funcs j).regs.toNat r) (p : Nat) (hp : p < (el zFunc x.funcs j).code.length) (hpr : el false r.reached p = true) :
    Calls Try.prog 112 #[.pointer (some ⟨g, 0, none⟩), .int .i64 p] w fun e w' => ∃ vt', e = .returned (.tuple #[]) ∧ Run 149 #[.pointer (some ⟨gx, 0, none⟩), .pointer (some (fa.add (j * 5))), vl, vr, vt', .bool (stepP x (el zFunc x.funcs j) r p).bad] 0 g lo w0 w' (stepP x (el zFunc x.funcs j) r p) vl vr vt' := by
  have hu := Try.underlying31; have hu1 := Try.underlying48; have hu2 := Try.underlying73; have hu3 := Try.underlying76; have hu4 := Try.underlying107; have hu5 := Try.underlying71; have hu6 := Try.underlying70; have hu7 := Try.underlying149
  obtain ⟨fa0, A2, c2, A3, c3, A4, c4, hfa, x0, x1, x2, x3, x4, hcap, hcode, hhan⟩ := func_at5 g0 j hj
  cases hfa
  have HST := Aside0.mk (fun (s : State) (i : Ins) (cs : List Value) (W : World) (hB : Below w0.heap.size w0 W) (hk : kStateI.K W s cs) (hl : s.regs.length ≤ 1048576) (hi : i ∈ (el zFunc x.funcs j).code) => cStepped x j s i cs gx fa c0 A1 c1 W hk hl (pw_cell_below hB hx0) (pw_cell_below hB hx1) (Kd.C_below g0 hB) hj (by have := ok.fl; omega) (by have := ok.cl; omega) (ok.code i hi).1 (ok.code i hi).2.1 (ok.code i hi).2.2)
  obtain ⟨f, hfe⟩ : ∃ f, f = el zFunc x.funcs j := ⟨_, rfl⟩
  rw [← hfe] at x3 x4 HST ok hI hp hcode hhan ⊢
  have F3 := Aside0.mk x3; have F4 := Aside0.mk x4; have HC := Aside0.mk hcode; have HH := Aside0.mk hhan; have OK := Aside0.mk ok; have HI := Aside0.mk hI; have HR := Aside0.mk hr; have HPR := Aside0.mk hpr
  have hkl := ok.kl; have hhl := ok.hl; have hrg := ok.rg; have hpm := ok.pr
  have hll := hI.ll; have hlrr := hI.lr
  clear hfe g0 hx0 hx1 hcap hcode hhan x0 x1 x2 x3 x4 ok hI hpr
  obtain ⟨s, hse⟩ : ∃ s, s = el zState r.list p := ⟨_, rfl⟩
  obtain ⟨i, hie⟩ : ∃ i, i = el zIns f.code p := ⟨_, rfl⟩
  have HSE := Aside0.mk hse; have HIE := Aside0.mk hie
  have HIM := Aside0.mk (show i ∈ f.code by rw [hie]; exact el_mem zIns hp)
  have HIB := Aside0.mk (show (1 ≤ i.op ∧ i.op ≤ 19) ∧ (0 ≤ i.a ∧ i.a ≤ 300) ∧ (0 ≤ i.b ∧ i.b ≤ 300) from OK.out.code i HIM.out)
  have hls0 : s.regs.length = f.regs.toNat := by rw [hse]; exact HI.out.rs p hp HPR.out
  have hls : s.regs.length ≤ 1048576 := by omega
  have HLS := Aside0.mk hls0; clear hls0
  -- the run's rows
  obtain ⟨gl, cl, hgl, hglo, hgll, _⟩ := Kd.R_form hr.L (by omega)
  obtain ⟨c, hcl, hcM, hcc, hcf⟩ := Kd.R_elem (by rw [hgl] at hr; exact hr.L) zState (p : Int) (by omega) (by omega)
  rw [Int.toNat_natCast, show r.list.getD p zState = s from hse.symm] at hcM
  obtain ⟨va, rfl, hra⟩ := kStateI_openM hcM
  obtain ⟨AS, yS, rfl⟩ := Kd.R_slice hra
  have S0 := Aside0.mk (show SOk g lo w vt s [.int .i64 s.acc, .slice AS s.regs.length yS] from kStateI.M_mono (fun k hk => hk.1) hcM)
  have e0 : w.cell? ⟨gl, p * 2, none⟩ = some (.int .i64 s.acc) := hcc 0 _ rfl
  have e1 : w.cell? ⟨gl, p * 2 + 1, none⟩ = some (.slice AS s.regs.length yS) := hcc 1 _ rfl
  have hb4 : ∀ v : Value, (∀ k, v.ownBlock = some k → k < w.heap.size) → some w.heap.size ≠ v.ownBlock := fun v h e => by have := h _ e.symm; omega
  have B4 := Aside0.mk (show BOk g vl vr vt (w.alloc (.cells #[.int .i64 s.acc, .slice AS s.regs.length yS] 31)) w.heap.size (.cells #[.int .i64 s.acc, .slice AS s.regs.length yS] 31 (0, 0)) from ⟨blk_new _ _, Nat.ne_of_gt (blk_lt hr.box), hb4 vl (Kd.R_lt hr.L), hb4 vr (Kd.R_lt hr.B), hb4 vt (Kd.Q_lt hr.Q)⟩)
  have B0 := Aside0.mk (below_alloc (Below.refl w.heap.size w) (.cells #[.int .i64 s.acc, .slice AS s.regs.length yS] 31))
  have R0 := Aside0.mk (hr.step B0.out); have S1 := Aside0.mk (S0.out.step B0.out)
  have q2 := (blk_cell hr.box 2).trans rfl
  have q1 := (blk_cell R0.out.box 1).trans rfl
  have y4 := pw_cell_below R0.out.below F4.out
  have hp0 : (0 : Int) ≤ (p : Int) := by omega
  have hp1 : (p : Int) < (r.list.length : Int) := by omega
  have hgl2 := hgl
  clear hcl hcM hcc hcf hra hb4 S0 hr hgll
  have HGL := Aside0.mk hgl2; clear hgl2
  rw [hgl] at q2
  clear hgl hse hie
  go_enter Try.func112, Try.ntmps112
  go_upto_region 2 with fail
  clear q1 q2 y4 e0 e1
  generalize w.alloc (.cells #[.int .i64 s.acc, .slice AS s.regs.length yS] 31) = wq at B4 R0 S1 ⊢
  clear B0
  go_loopw [26] (fun v wx => ∃ (q : Nat) (vt' : Value), v = .int .i64 q ∧ q ≤ f.handlers.length ∧ Aside0 (Run 149 #[.pointer (some ⟨gx, 0, none⟩), .pointer (some (fa.add (j * 5))), vl, vr, vt', .bool (handsTo f.handlers (p : Int) s r q).bad] 0 g lo w0 wx (handsTo f.handlers (p : Int) s r q) vl vr vt') ∧ Aside0 (SOk g lo wx vt' s [.int .i64 s.acc, .slice AS s.regs.length yS]) ∧ Aside0 (BOk g vl vr vt' wx w.heap.size (.cells #[.int .i64 s.acc, .slice AS s.regs.length yS] 31 (0, 0)))) (fun v _ => f.handlers.length - (intOf v).toNat)
  case atStart => exact ⟨0, vt, rfl, by omega, R0, S1, B4⟩
  case round =>
  clear R0 S1 B4
  obtain ⟨q, vt2, rfl, hq, R1, S1, B1⟩ := hrel
  have HI1 := Aside0.mk (hands_inv (hs := f.handlers) (p := (p : Int)) (s := s) HI.out HLS.out q).1
  by_cases hlt : q < f.handlers.length
  · have hle : (q : Int) < (f.handlers.length : Int) := by omega
    obtain ⟨ha, hha, hK, y0, y1, y2⟩ := Handler_at (Kd.C_below HH.out.2 R1.out.below) q hlt
    cases hha
    clear hK
    obtain ⟨h, hhe⟩ : ∃ h, h = el zHandler f.handlers q := ⟨_, rfl⟩
    rw [← hhe] at y0 y1 y2
    have HHE := Aside0.mk hhe; clear hhe
    have HHB := Aside0.mk (show (0 ≤ h.from_ ∧ h.from_ ≤ 300) ∧ (0 ≤ h.to_ ∧ h.to_ ≤ 300) ∧ (0 ≤ h.target ∧ h.target ≤ 300) from OK.out.hand h (by rw [HHE.out]; exact el_mem zHandler hlt))
    have i6 : IntKind.i64.wrap (h.to_ - 1) = h.to_ - 1 := IntWalk.i64_in _ (by have := HHB.out; omega)
    have i7 : wrap64 (h.to_ - 1) = h.to_ - 1 := wrap64_id (by have := HHB.out; omega) (by have := HHB.out; omega)
    have M2 := Aside0.mk ((Mem.start wr).allocAt rfl #[.int .i64 h.from_, .int .i64 h.to_, .int .i64 h.target] 107)
    go_upto_region 4 with fail
    clear y0 y1 y2
    generalize hwt : wr.alloc (.cells #[.int .i64 h.from_, .int .i64 h.to_, .int .i64 h.target] 107) = wt at M2 ⊢
    clear hwt
    have z0 := M2.out.box (.head _)
    go_wp2_with fail
    refine (impl_within.calls _ _ _ _ _ (Img.impl_in (p : Int) h.from_ (h.to_ - 1))).mono ?_; rintro e w3 ⟨rfl, ⟨⟨n3, rfl⟩⟩⟩
    have M3 := Aside0.mk (M2.out.draw n3); clear M2 z0
    generalize wt.drewN n3 = wu at M3 ⊢
    rcases Bool.eq_false_or_eq_true (Img.inB (p : Int) h.from_ (h.to_ - 1)) with hin | hin
    rotate_left
    · rw [hin]
      have hno : handsTo f.handlers (p : Int) s r (q + 1) = handsTo f.handlers (p : Int) s r q := by
        have h2 := of_decide_eq_false hin
        show (if (el zHandler f.handlers q).from_ ≤ (p : Int) ∧ (p : Int) < (el zHandler f.handlers q).to_ then _ else _) = _
        rw [← HHE.out, if_neg (by omega)]
      have HNO := Aside0.mk hno; clear hno hin
      go_wp2
      go_roundw
      case measure => simp [intOf]; omega
      case rel => exact ⟨q + 1, vt2, by go_num, by omega, ⟨by rw [HNO.out]; exact R1.out.step M3.out.below⟩, ⟨S1.out.step M3.out.below⟩, ⟨B1.out.step M3.out.below⟩⟩
    · rw [hin]
      have HYE := Aside0.mk (show handsTo f.handlers (p : Int) s r (q + 1) = come (handsTo f.handlers (p : Int) s r q) h.target.toNat ⟨1, s.regs⟩ by
        have h2 := of_decide_eq_true hin
        show (if (el zHandler f.handlers q).from_ ≤ (p : Int) ∧ (p : Int) < (el zHandler f.handlers q).to_ then _ else _) = _
        rw [← HHE.out, if_pos (by omega)])
      clear hin
      obtain ⟨tg, htg⟩ : ∃ tg : Nat, h.target = tg := ⟨h.target.toNat, by have := HHB.out; omega⟩
      have htg3 : tg ≤ 300 := by have := HHB.out; omega
      rw [htg] at HYE M3
      rw [Int.toNat_natCast] at HYE
      have z0 := M3.out.box (.head _)
      have z4 := fun o => blk_cell (B1.out.step M3.out.below).1 o
      go_wp2_with fail
      refine (cCopy s _ _ (S1.out.step M3.out.below).K hls).mono ?_; rintro e w5 ⟨ds, rfl, hm, hb5⟩; obtain ⟨v5, rfl, hr5⟩ := kStateI_openM hm; obtain ⟨X5, y5, rfl⟩ := Kd.R_slice hr5
      have M5 := Aside0.mk (M3.out.push hb5 hm); have HWU := Aside0.mk M3.out.below.size; clear hm hb5 hr5 z0 z4 M3
      obtain ⟨g7, hg7⟩ : ∃ g7 : Nat, g7 = w5.heap.size := ⟨_, rfl⟩
      have M6 := Aside0.mk (M5.out.allocAt hg7 #[.int .i64 s.acc, .slice X5 s.regs.length y5] 31); clear M5
      go_upto_region 6 with fail
      rw [← hg7]
      generalize w5.alloc (.cells #[.int .i64 s.acc, .slice X5 s.regs.length y5] 31) = w6 at M6 ⊢
      clear hg7
      have z7 := M6.out.box (.head _); have f7 := M6.out.free (.head _)
      have M7 := Aside0.mk (Mem.set (A := []) M6.out 0 (.int .i64 1) rfl)
      go_upto_region 7 with fail
      generalize w6.setCell ⟨g7, 0, none⟩ (.int .i64 1) = w7 at M7 ⊢
      clear M6 z7 f7
      have z7 := M7.out.box (.head _); have z0 := M7.out.box (.tail _ (.tail _ (.head _)))
      go_wp2_with fail
      have RL := R1.out.lt
      refine (cCome 0 g lo w0 w7 (handsTo f.handlers (p : Int) s r q) (.pointer (some ⟨gx, 0, none⟩)) (.pointer (some (fa.add (j * 5)))) vl vr vt2 tg ⟨1, s.regs⟩ [.int .i64 1, .slice X5 s.regs.length y5] (R1.out.step M7.out.below) (SOk.of_val (M7.out.val (.tail _ (.head _))) (Nat.le_trans (R1.out.low (by rw [HI1.out.ll]; omega)) HWU.out) (Nat.lt_of_lt_of_le RL.1 HWU.out) (fun k hk => Nat.lt_of_lt_of_le (RL.2 k hk) HWU.out)) (Nat.zero_le _) (by have := inv_q HI1.out hkl.2 (by omega); omega) (by rw [HI1.out.lr, HI1.out.ll]) (by rw [HI1.out.ll]; omega) hls (fun z hz hzr => by rw [HI1.out.rs z (by rw [HI1.out.ll] at hz; exact hz) hzr]; omega) (by omega) (Nat.le_trans (R1.out.low (by rw [HI1.out.ll]; omega)) M7.out.below.size)).mono ?_
      rintro e w8 ⟨vt3, rfl, hR8, hS8, hB8⟩
      have R8 := Aside0.mk hR8; have S8 := Aside0.mk (hS8 _ _ (S1.out.step M7.out.below)); have B8 := Aside0.mk (hB8 _ _ (B1.out.step M7.out.below))
      clear hR8 hS8 hB8 z0 z7 RL
      go_wp2
      go_roundw
      case measure => simp [intOf]; omega
      case rel => exact ⟨q + 1, vt3, by go_num, by omega, ⟨by rw [HYE.out]; exact R8.out⟩, S8, B8⟩
  · have hle : ¬ (q : Int) < (f.handlers.length : Int) := by omega
    obtain rfl : q = f.handlers.length := by omega
    obtain ⟨r1, hr1⟩ : ∃ r1, r1 = handsTo f.handlers (p : Int) s r f.handlers.length := ⟨_, rfl⟩
    rw [← hr1] at R1 HI1
    have HR1 := Aside0.mk hr1; clear hr1
    have q1 := (blk_cell R1.out.box 1).trans rfl
    have y3 := pw_cell_below R1.out.below F3.out
    obtain ⟨ka, hka, kK, k0, k1, k2⟩ := Ins_at (Kd.C_below HC.out.2 R1.out.below) p hp
    cases hka
    clear kK
    rw [← HIE.out] at k0 k1 k2
    have hpk : (p : Int) < (f.code.length : Int) := by omega
    have M2 := Aside0.mk ((Mem.start wr).allocAt rfl #[.int .i64 i.op, .int .i64 i.a, .int .i64 i.b] 76)
    go_upto_region 10 with fail
    clear q1 y3 k0 k1 k2
    obtain ⟨g8, hg8⟩ : ∃ g8 : Nat, g8 = wr.heap.size := ⟨_, rfl⟩
    rw [← hg8] at M2 ⊢
    have HG8 := Aside0.mk hg8; clear hg8
    generalize hwt : wr.alloc (.cells #[.int .i64 i.op, .int .i64 i.a, .int .i64 i.b] 76) = wt at M2 ⊢
    clear hwt
    obtain ⟨L, HL, ML⟩ := Mem.hide M2
    have E8 := Aside0.mk (show Hold.box g8 #[.int .i64 i.op, .int .i64 i.a, .int .i64 i.b] 76 ∈ L from HL.out ▸ (.head _))
    clear M2

    obtain ⟨nx, hnx⟩ : ∃ nx, nx = stepped x f i s := ⟨_, rfl⟩
    have HNX := Aside0.mk hnx; clear hnx
    go_cut [9, 10] (fun u v wx => ∃ (g9 : Nat) (X : Option Addr) (Y lo9 hi9 : Nat), u = .pointer (some ⟨g9, 0, none⟩) ∧ v = .bool (stepOk x f i s) ∧ Aside0 (Mem wr wx (Hold.box g9 #[.int .i64 nx.acc, .slice X nx.regs.length Y] 31 :: Hold.val kStateI lo9 hi9 nx [.int .i64 nx.acc, .slice X nx.regs.length Y] :: L)))
    case first =>
      refine sz 17 (fun W => W.cell? ⟨w.heap.size, 0, none⟩ = some (.int .i64 s.acc) ∧ W.cell? ⟨w.heap.size, 1, none⟩ = some (.slice AS s.regs.length yS) ∧ W.cell? ⟨g, 0, none⟩ = some (.pointer (some ⟨gx, 0, none⟩)) ∧ W.cell? ⟨g, 1, none⟩ = some (.pointer (some (fa.add (j * 5)))) ∧ W.cell? ⟨g8, 0, none⟩ = some (.int .i64 i.op) ∧ W.cell? ⟨g8, 1, none⟩ = some (.int .i64 i.a) ∧ W.cell? ⟨g8, 2, none⟩ = some (.int .i64 i.b)) [15] goI.tab10 goI.bits10 ⟨(blk_cell (B1.out.step ML.out.drew.below).1 0).trans rfl, (blk_cell (B1.out.step ML.out.drew.below).1 1).trans rfl, (blk_cell (R1.out.step ML.out.drew.below).box 0).trans rfl, (blk_cell (R1.out.step ML.out.drew.below).box 1).trans rfl, (ML.out.drew.box E8.out 0).trans rfl, (ML.out.drew.box E8.out 1).trans rfl, (ML.out.drew.box E8.out 2).trans rfl⟩ (fun HT_ HW_ hHeld => ?_)
      have MD := Aside0.mk ML.out.drew
      generalize wt.drew = wd at MD hHeld ⊢
      refine pz 1 58 ?_; refine pz 2 59 ?_; refine pz 3 60 ?_; refine pz 5 62 ?_; refine pz 6 63 ?_; refine pz 7 64 ?_; refine tz 0 57 ?_; refine tz 4 61 ?_; refine tz 8 65 ?_; refine tz 9 66 ?_
      refine twz 10 14 (some 67) (some 9) (fun K hK => ?_) (fun K hK => ?_)
      · skip
        refine gz Try.func61 #[.agg #[.int .i64 s.acc, .slice AS s.regs.length yS], .pointer (some ⟨gx, 0, none⟩), .pointer (some (fa.add (j * 5))), .agg #[.int .i64 i.op, .int .i64 i.a, .int .i64 i.b]] ?_
        refine (HST.out s i [.int .i64 s.acc, .slice AS s.regs.length yS] _ (R1.out.step MD.out.below).below (S1.out.step MD.out.below).K hls HIM.out).mono ?_
        rintro e c0 ⟨ds, rfl, hm, hb9⟩; rw [← HNX.out] at hm; obtain ⟨v9, rfl, hr9⟩ := kStateI_openM hm; obtain ⟨X9, y9, rfl⟩ := Kd.R_slice hr9
        have Mc0 := Aside0.mk (MD.out.push hb9 hm); clear hm hb9 hr9
        refine ⟨_, rfl, ?_⟩
        refine hK.out _ _ ⟨(blk_cell (B1.out.step Mc0.out.below).1 0).trans rfl, (blk_cell (B1.out.step Mc0.out.below).1 1).trans rfl, (blk_cell (R1.out.step Mc0.out.below).box 0).trans rfl, (blk_cell (R1.out.step Mc0.out.below).box 1).trans rfl, (Mc0.out.box (List.Mem.tail _ E8.out) 0).trans rfl, (Mc0.out.box (List.Mem.tail _ E8.out) 1).trans rfl, (Mc0.out.box (List.Mem.tail _ E8.out) 2).trans rfl⟩ (fun hHeld => ?_); clear hK K; refine kz (some 67) ?_
        refine pz 11 56 ?_; refine pz 12 68 ?_; refine pz 13 69 ?_
        refine ez 14 (some 9) (fun K hK => ?_)
        refine box_step ?hg (N := 9) ?hd (cs := #[.int .i64 0, .slice none 0 0]) (t := 31) ?hr ?_; (case hd => rfl); (case hg => rfl); (case hr => first | (go_simp; done) | (go_simp; rfl))
        intro g9 hg9 a1 hbx hbb
        have Ma1 := Aside0.mk (Mc0.out.boxed hg9 hbx hbb); clear hg9 hbx hbb
        refine hK.out _ _ ⟨(blk_cell (B1.out.step Ma1.out.below).1 0).trans rfl, (blk_cell (B1.out.step Ma1.out.below).1 1).trans rfl, (blk_cell (R1.out.step Ma1.out.below).box 0).trans rfl, (blk_cell (R1.out.step Ma1.out.below).box 1).trans rfl, (Ma1.out.box (List.Mem.tail _ (List.Mem.tail _ E8.out)) 0).trans rfl, (Ma1.out.box (List.Mem.tail _ (List.Mem.tail _ E8.out)) 1).trans rfl, (Ma1.out.box (List.Mem.tail _ (List.Mem.tail _ E8.out)) 2).trans rfl⟩ (fun hHeld => ?_); clear hK K; refine kz (some 9) ?_
        refine lz 15 none (fun K hK => ?_)
        have b0 := Ma1.out.box (.head _); have b1 := Ma1.out.free (.head _)
        refine skip_ (w1 := ?_) (by rfl) rfl ?_ ?_
        rotate_left
        · go_simp
          rfl
        clear b0 b1
        refine hK.out _ _ ?_; clear hK K
        refine pz 16 10 ?_
        refine dz ?_
        have MF := Aside0.mk (Mem.set (A := []) (Mem.set (A := []) Ma1.out 0 (.int .i64 nx.acc) rfl) 1 (.slice X9 nx.regs.length y9) rfl)
        clear hHeld
        try go_wp2_with fail
        go_meet
        exact ⟨_, _, _, _, _, rfl, rfl, MF⟩
      · skip
        refine box_step ?hg (N := 9) ?hd (cs := #[.int .i64 0, .slice none 0 0]) (t := 31) ?hr ?_; (case hd => rfl); (case hg => rfl); (case hr => first | (go_simp; done) | (go_simp; rfl))
        intro g9 hg9 a0 hbx hbb
        have Ma0 := Aside0.mk (MD.out.boxed hg9 hbx hbb); clear hg9 hbx hbb
        refine hK.out _ _ ⟨(blk_cell (B1.out.step Ma0.out.below).1 0).trans rfl, (blk_cell (B1.out.step Ma0.out.below).1 1).trans rfl, (blk_cell (R1.out.step Ma0.out.below).box 0).trans rfl, (blk_cell (R1.out.step Ma0.out.below).box 1).trans rfl, (Ma0.out.box (List.Mem.tail _ E8.out) 0).trans rfl, (Ma0.out.box (List.Mem.tail _ E8.out) 1).trans rfl, (Ma0.out.box (List.Mem.tail _ E8.out) 2).trans rfl⟩ (fun hHeld => ?_); clear hK K; refine kz (some 9) ?_
        refine ez 10 (some 67) (fun K hK => ?_)
        refine gz Try.func61 #[.agg #[.int .i64 s.acc, .slice AS s.regs.length yS], .pointer (some ⟨gx, 0, none⟩), .pointer (some (fa.add (j * 5))), .agg #[.int .i64 i.op, .int .i64 i.a, .int .i64 i.b]] ?_
        refine (HST.out s i [.int .i64 s.acc, .slice AS s.regs.length yS] _ (R1.out.step Ma0.out.below).below (S1.out.step Ma0.out.below).K hls HIM.out).mono ?_
        rintro e c1 ⟨ds, rfl, hm, hb9⟩; rw [← HNX.out] at hm; obtain ⟨v9, rfl, hr9⟩ := kStateI_openM hm; obtain ⟨X9, y9, rfl⟩ := Kd.R_slice hr9
        have Mc1 := Aside0.mk (Ma0.out.push hb9 hm); clear hm hb9 hr9
        refine ⟨_, rfl, ?_⟩
        refine hK.out _ _ ⟨(blk_cell (B1.out.step Mc1.out.below).1 0).trans rfl, (blk_cell (B1.out.step Mc1.out.below).1 1).trans rfl, (blk_cell (R1.out.step Mc1.out.below).box 0).trans rfl, (blk_cell (R1.out.step Mc1.out.below).box 1).trans rfl, (Mc1.out.box (List.Mem.tail _ (List.Mem.tail _ E8.out)) 0).trans rfl, (Mc1.out.box (List.Mem.tail _ (List.Mem.tail _ E8.out)) 1).trans rfl, (Mc1.out.box (List.Mem.tail _ (List.Mem.tail _ E8.out)) 2).trans rfl⟩ (fun hHeld => ?_); clear hK K; refine kz (some 67) ?_
        refine pz 11 56 ?_; refine pz 12 68 ?_; refine pz 13 69 ?_
        refine lz 15 none (fun K hK => ?_)
        have b0 := Mc1.out.box (.tail _ (.head _)); have b1 := Mc1.out.free (.tail _ (.head _))
        refine skip_ (w1 := ?_) (by rfl) rfl ?_ ?_
        rotate_left
        · go_simp
          rfl
        clear b0 b1
        refine hK.out _ _ ?_; clear hK K
        refine pz 16 10 ?_
        refine dz ?_
        have MF := Aside0.mk (Mem.set (A := [_]) (Mem.set (A := [_]) Mc1.out 0 (.int .i64 nx.acc) rfl) 1 (.slice X9 nx.regs.length y9) rfl).swap2
        clear hHeld
        try go_wp2_with fail
        go_meet
        exact ⟨_, _, _, _, _, rfl, rfl, MF⟩
    case rest =>
    obtain ⟨g9, X, Y, lo9, hi9, rfl, rfl, M3⟩ := hcut
    have hl := HL.out; subst hl; clear HL E8 ML
    have hrl := R1.out.low (by rw [HI1.out.ll]; omega)
    have hrt := R1.out.lt
    have hv9 := (M3.out.fits _ (.tail _ (.head _))).1; have hg9 := (M3.out.fits _ (.head _)).1
    have hv9' : wr.heap.size ≤ lo9 := hv9
    have hg9' : wr.heap.size ≤ g9 := hg9
    have R3 := Aside0.mk (R1.out.step M3.out.below)
    have S3 := Aside0.mk (SOk.of_val (g := g) (lo := lo) (vt := vt2) (a2 := nx.acc) (M3.out.val (.tail _ (.head _))) (by omega) (by omega) (fun k hk => by have := hrt.2 k hk; omega))
    have hnb : ∀ v : Value, (∀ k, v.ownBlock = some k → k < wr.heap.size) → some g9 ≠ v.ownBlock := fun v h e => by have := h _ e.symm; omega
    have B3 := Aside0.mk (show BOk g vl vr vt2 _ g9 (.cells #[.int .i64 nx.acc, .slice X nx.regs.length Y] 31 (0, 0)) from ⟨M3.out.blk (.head _), by omega, hnb vl (Kd.R_lt R1.out.L), hnb vr (Kd.R_lt R1.out.B), hnb vt2 (Kd.Q_lt R1.out.Q)⟩)
    have HLOW := Aside0.mk (Nat.le_trans hrl M3.out.below.size)
    have HOKM := Aside0.mk (show stepOk x f i s = mayB x f i s from by unfold stepOk; rw [decide_eq_true (by have := HLS.out; omega)]; rfl)
    have HSP := Aside0.mk (show stepP x f r p = if mayB x f i s = true then next (jump r1 i (afterS i s)) i p (afterS i s) else { r1 with bad := true } from by unfold stepP; rw [← HSE.out, ← HIE.out, ← HR1.out])
    clear hrl hrt hv9 hg9 hv9' hg9' hnb R1 S1 B1
    rw [HOKM.out]
    have z8 := M3.out.box (.tail _ (.tail _ (.head _))); have z9 := M3.out.box (.head _)
    rcases Bool.eq_false_or_eq_true (mayB x f i s) with hmb | hmb
    rotate_left
    · rw [hmb]
      have HF := Aside0.mk (show stepP x f r p = { r1 with bad := true } from by rw [HSP.out, if_neg (by rw [hmb]; decide)])
      have q5 := (blk_cell R3.out.box 5).trans rfl; have f5 := blk_frozen R3.out.box 5
      have RF := Aside0.mk ((R3.out.set 5 (.bool true) rfl).as (r2 := { r1 with bad := true }) rfl rfl rfl)
      clear hmb
      go_wp2
      first | go_end0 | ((try simp only [Exit.inBlock, Exit.then]); refine bodyPost_ret (results_none rfl _ _ _) rfl ?_)
      rw [HF.out]
      first | exact ⟨_, rfl, RF.out⟩ | exact ⟨rfl, _, RF.out⟩
    rw [hmb]
    have HNA := Aside0.mk (show nx = afterS i s from by rw [HNX.out]; unfold stepped; rw [if_pos (by rw [HOKM.out]; exact hmb)])
    have HF := Aside0.mk (show stepP x f r p = next (jump r1 i nx) i p nx from by rw [HSP.out, if_pos hmb, HNA.out])
    have HLN := Aside0.mk (show nx.regs.length = f.regs.toNat from by rw [HNA.out, after_len]; exact HLS.out)
    have hln : nx.regs.length ≤ 1048576 := by have := HLN.out; omega
    clear hmb
    obtain ⟨ia, hia⟩ : ∃ ia : Nat, i.a = ia := ⟨i.a.toNat, by have := HIB.out; omega⟩
    have hia3 : ia ≤ 300 := by have := HIB.out; omega
    rw [hia] at z8
    by_cases hop : i.op = 12
    · rw [hop] at z8
      go_wp2_with fail
      refine (cCome 0 g lo w0 _ r1 (.pointer (some ⟨gx, 0, none⟩)) (.pointer (some (fa.add (j * 5)))) vl vr _ ia nx [.int .i64 nx.acc, .slice X nx.regs.length Y] R3.out S3.out (Nat.zero_le _) (by have := inv_q HI1.out hkl.2 (by omega); omega) (by rw [HI1.out.lr, HI1.out.ll]) (by rw [HI1.out.ll]; omega) hln (fun z hz hzr => by rw [HI1.out.rs z (by rw [HI1.out.ll] at hz; exact hz) hzr]; omega) (by omega) HLOW.out).mono ?_
      rintro e w10 ⟨vt10, rfl, hR8, hS8, hB8⟩
      have R10 := Aside0.mk hR8; have S10 := Aside0.mk (hS8 _ _ S3.out); have B10 := Aside0.mk (hB8 _ _ B3.out); clear hR8 hS8 hB8
      go_wp2
      first | go_end0 | ((try simp only [Exit.inBlock, Exit.then]); refine bodyPost_ret (results_none rfl _ _ _) rfl ?_)
      have HE := Aside0.mk (show stepP x f r p = (come r1 ia nx) from by rw [HF.out]; unfold next jump isEnd isJump; simp [hop, hia])
      rw [HE.out]
      first | exact ⟨_, rfl, R10.out⟩ | exact ⟨rfl, _, R10.out⟩
    by_cases hop : i.op = 17
    · rw [hop] at z8
      go_wp2
      first | go_end0 | ((try simp only [Exit.inBlock, Exit.then]); refine bodyPost_ret (results_none rfl _ _ _) rfl ?_)
      have HE := Aside0.mk (show stepP x f r p = r1 from by rw [HF.out]; unfold next jump isEnd isJump; simp [hop, hia])
      rw [HE.out]
      first | exact ⟨_, rfl, R3.out⟩ | exact ⟨rfl, _, R3.out⟩
    by_cases hop : i.op = 18
    · rw [hop] at z8
      go_wp2
      first | go_end0 | ((try simp only [Exit.inBlock, Exit.then]); refine bodyPost_ret (results_none rfl _ _ _) rfl ?_)
      have HE := Aside0.mk (show stepP x f r p = r1 from by rw [HF.out]; unfold next jump isEnd isJump; simp [hop, hia])
      rw [HE.out]
      first | exact ⟨_, rfl, R3.out⟩ | exact ⟨rfl, _, R3.out⟩
    by_cases hop : i.op = 14
    · rw [hop] at z8
      go_wp2_with fail
      refine (cCome 0 g lo w0 _ r1 (.pointer (some ⟨gx, 0, none⟩)) (.pointer (some (fa.add (j * 5)))) vl vr _ ia nx [.int .i64 nx.acc, .slice X nx.regs.length Y] R3.out S3.out (Nat.zero_le _) (by have := inv_q HI1.out hkl.2 (by omega); omega) (by rw [HI1.out.lr, HI1.out.ll]) (by rw [HI1.out.ll]; omega) hln (fun z hz hzr => by rw [HI1.out.rs z (by rw [HI1.out.ll] at hz; exact hz) hzr]; omega) (by omega) HLOW.out).mono ?_
      rintro e w10 ⟨vt10, rfl, hR8, hS8, hB8⟩
      have R10 := Aside0.mk hR8; have S10 := Aside0.mk (hS8 _ _ S3.out); have B10 := Aside0.mk (hB8 _ _ B3.out); clear hR8 hS8 hB8
      clear z8 z9
      have z9 := fun o => blk_cell B10.out.1 o
      have HI2 := Aside0.mk (come_inv (p := ia) (s := nx) HI1.out HLN.out).1
      have HLOW2 := Aside0.mk (R10.out.low (by rw [HI2.out.ll]; omega))
      go_wp2_with fail
      refine (cCome 0 g lo w0 _ (come r1 ia nx) (.pointer (some ⟨gx, 0, none⟩)) (.pointer (some (fa.add (j * 5)))) vl vr _ (p + 1) nx [.int .i64 nx.acc, .slice X nx.regs.length Y] R10.out S10.out (Nat.zero_le _) (by have := inv_q HI2.out hkl.2 (by omega); omega) (by rw [HI2.out.lr, HI2.out.ll]) (by rw [HI2.out.ll]; omega) hln (fun z hz hzr => by rw [HI2.out.rs z (by rw [HI2.out.ll] at hz; exact hz) hzr]; omega) (by omega) HLOW2.out).mono ?_
      rintro e w11 ⟨vt11, rfl, hR8, hS8, hB8⟩
      have R11 := Aside0.mk hR8; have S11 := Aside0.mk (hS8 _ _ S10.out); have B11 := Aside0.mk (hB8 _ _ B10.out); clear hR8 hS8 hB8
      go_wp2
      first | go_end0 | ((try simp only [Exit.inBlock, Exit.then]); refine bodyPost_ret (results_none rfl _ _ _) rfl ?_)
      have HE := Aside0.mk (show stepP x f r p = (come (come r1 ia nx) (p + 1) nx) from by rw [HF.out]; unfold next jump isEnd isJump; simp [hop, hia])
      rw [HE.out]
      first | exact ⟨_, rfl, R11.out⟩ | exact ⟨rfl, _, R11.out⟩
    by_cases hop : i.op = 13
    · rw [hop] at z8
      go_wp2_with fail
      refine (cCome 0 g lo w0 _ r1 (.pointer (some ⟨gx, 0, none⟩)) (.pointer (some (fa.add (j * 5)))) vl vr _ ia nx [.int .i64 nx.acc, .slice X nx.regs.length Y] R3.out S3.out (Nat.zero_le _) (by have := inv_q HI1.out hkl.2 (by omega); omega) (by rw [HI1.out.lr, HI1.out.ll]) (by rw [HI1.out.ll]; omega) hln (fun z hz hzr => by rw [HI1.out.rs z (by rw [HI1.out.ll] at hz; exact hz) hzr]; omega) (by omega) HLOW.out).mono ?_
      rintro e w10 ⟨vt10, rfl, hR8, hS8, hB8⟩
      have R10 := Aside0.mk hR8; have S10 := Aside0.mk (hS8 _ _ S3.out); have B10 := Aside0.mk (hB8 _ _ B3.out); clear hR8 hS8 hB8
      clear z8 z9
      have z9 := fun o => blk_cell B10.out.1 o
      have HI2 := Aside0.mk (come_inv (p := ia) (s := nx) HI1.out HLN.out).1
      have HLOW2 := Aside0.mk (R10.out.low (by rw [HI2.out.ll]; omega))
      go_wp2_with fail
      refine (cCome 0 g lo w0 _ (come r1 ia nx) (.pointer (some ⟨gx, 0, none⟩)) (.pointer (some (fa.add (j * 5)))) vl vr _ (p + 1) nx [.int .i64 nx.acc, .slice X nx.regs.length Y] R10.out S10.out (Nat.zero_le _) (by have := inv_q HI2.out hkl.2 (by omega); omega) (by rw [HI2.out.lr, HI2.out.ll]) (by rw [HI2.out.ll]; omega) hln (fun z hz hzr => by rw [HI2.out.rs z (by rw [HI2.out.ll] at hz; exact hz) hzr]; omega) (by omega) HLOW2.out).mono ?_
      rintro e w11 ⟨vt11, rfl, hR8, hS8, hB8⟩
      have R11 := Aside0.mk hR8; have S11 := Aside0.mk (hS8 _ _ S10.out); have B11 := Aside0.mk (hB8 _ _ B10.out); clear hR8 hS8 hB8
      go_wp2
      first | go_end0 | ((try simp only [Exit.inBlock, Exit.then]); refine bodyPost_ret (results_none rfl _ _ _) rfl ?_)
      have HE := Aside0.mk (show stepP x f r p = (come (come r1 ia nx) (p + 1) nx) from by rw [HF.out]; unfold next jump isEnd isJump; simp [hop, hia])
      rw [HE.out]
      first | exact ⟨_, rfl, R11.out⟩ | exact ⟨rfl, _, R11.out⟩
    have q12 : (i.op == 12) = false := by simp; omega
    have q17 : (i.op == 17) = false := by simp; omega
    have q18 : (i.op == 18) = false := by simp; omega
    have q14 : (i.op == 14) = false := by simp; omega
    have q13 : (i.op == 13) = false := by simp; omega
    go_wp2_with fail
    refine (cCome 0 g lo w0 _ r1 (.pointer (some ⟨gx, 0, none⟩)) (.pointer (some (fa.add (j * 5)))) vl vr _ (p + 1) nx [.int .i64 nx.acc, .slice X nx.regs.length Y] R3.out S3.out (Nat.zero_le _) (by have := inv_q HI1.out hkl.2 (by omega); omega) (by rw [HI1.out.lr, HI1.out.ll]) (by rw [HI1.out.ll]; omega) hln (fun z hz hzr => by rw [HI1.out.rs z (by rw [HI1.out.ll] at hz; exact hz) hzr]; omega) (by omega) HLOW.out).mono ?_
    rintro e w10 ⟨vt10, rfl, hR8, hS8, hB8⟩
    have R10 := Aside0.mk hR8; have S10 := Aside0.mk (hS8 _ _ S3.out); have B10 := Aside0.mk (hB8 _ _ B3.out); clear hR8 hS8 hB8
    go_wp2
    first | go_end0 | ((try simp only [Exit.inBlock, Exit.then]); refine bodyPost_ret (results_none rfl _ _ _) rfl ?_)
    have HE := Aside0.mk (show stepP x f r p = come r1 (p + 1) nx from by rw [HF.out]; unfold next jump isEnd isJump; rw [decide_eq_false (by omega), decide_eq_false (by omega)]; rfl)
    rw [HE.out]
    first | exact ⟨_, rfl, R10.out⟩ | exact ⟨rfl, _, R10.out⟩
end Go.Proofs.Ytcbaokflimdjnaa.Flow
end
