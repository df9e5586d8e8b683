/- Part 22 of the proof: general lemmas, contracts of functions, walks. No condition of its own. -/
import Derived.Test.YtcbaokflimdjnaaPS21
import Derived.Test.YtcbaokflimdjnaaPS19
section
namespace Go.Proofs.Ytcbaokflimdjnaa.Flow
open Go.RowKit Go.Proofs.YtcbaokflimdjnaaW.PrintWords Go.Proofs.YtcbaokflimdjnaaW.PrintLast Go.Proofs.Ytcbaokflimdjnaa.Steps Go.Proofs.YtcbaokflimdjnaaW.PrintMore Go.Proofs.Ytcbaokflimdjnaa.Law Go.Proofs.Ytcbaokflimdjnaa Go.Proofs.Ytcbaokflimdjnaa.QFnExactVerify Go.Proofs.Ytcbaokflimdjnaa.Num
set_option linter.unusedVariables false
set_option linter.unusedSimpArgs false
set_option autoImplicit false
def fnAt (x : Image) (fn : Int) : Func := el zFunc x.funcs fn.toNat
def insAt (x : Image) (fn at_ : Int) : Ins := el zIns (fnAt x fn).code at_.toNat
def sfIn (x : Image) (fn at_ : Int) : Bool := imgB x && (Img.inB fn 0 ((x.funcs.length : Int) - 1) && Img.inB at_ 0 (((fnAt x fn).code.length : Int) - 1))
def sfOk (x : Image) (fn at_ : Int) (s : State) : Bool := sfIn x fn at_ && stepOk x (fnAt x fn) (insAt x fn at_) s
def sfRes (x : Image) (fn at_ : Int) (s : State) : State := if sfOk x fn at_ s = true then afterS (insAt x fn at_) s else zState
theorem sf_no {x : Image} {fn at_ : Int} {s : State} (h : sfOk x fn at_ s = false) : sfRes x fn at_ s = zState := by unfold sfRes; rw [if_neg (by rw [h]; decide)]
theorem sf_yes {x : Image} {fn at_ : Int} {s : State} (h : sfOk x fn at_ s = true) : sfRes x fn at_ s = afterS (insAt x fn at_) s := by unfold sfRes; rw [if_pos h]
def sfS.T1 : Bool × List (List Nat × List Nat) := (true, [([], []), ([0], [0]), ([1], [1]), ([2, 1], [2]), ([3], [3]), ([3], [3]), ([5, 3], [3, 5]), ([6, 3], [3, 6]), ([7, 3], [3, 7]), ([4, 8, 3, 3], [3, 4, 8]), ([9, 3], [3, 9]), ([3, 10], [3, 10]), ([11, 9], [11]), ([12], [12]), ([12], [12]), ([14, 12], [12, 14]), ([12], [12]), ([15, 16, 12], [12, 15, 16]), ([17, 12], [12, 17]), ([18, 12], [12, 18]), ([19, 12], [12, 19]), ([20, 12], [12, 20]), ([13, 21, 12, 12], [12, 13, 21]), ([22, 12], [12, 22]), ([12, 23], [12, 23]), ([24, 22], [24]), ([25], [25]), ([26, 25], [25, 26]), ([27, 25], [25, 27]), ([25], [25]), ([29, 25], [25, 29]), ([25], [25]), ([30, 31, 25], [25, 30, 31]), ([32, 25], [25, 32]), ([33, 25], [25, 33]), ([28, 34, 25], [25, 28, 34]), ([25, 35], [25, 35]), ([36, 25], [36]), ([37], [37]), ([37], [37]), ([37], [37]), ([40, 37], [37, 40]), ([37], [37]), ([41, 42, 37], [37, 41, 42]), ([43, 37], [37, 43]), ([44, 37], [37, 44]), ([37], [37]), ([45, 46, 37], [37, 45, 46]), ([47, 37], [37, 47]), ([37], [37]), ([38, 39, 48, 49, 37, 37], [37, 38, 39, 48, 49]), ([50, 37], [37, 50]), ([37, 51], [37, 51])])
def sfS.B1 : List Nat := [0, 1, 3, 7, 15, 15, 47, 111, 239, 511, 1023, 2047, 4095, 8191, 8191, 24575, 8191, 122879, 253951, 516095, 1040383, 2088959, 4194303, 8388607, 16777215, 33554431, 67108863, 134217727, 268435455, 67108863, 603979775, 67108863, 3825205247, 8120172543, 16710107135, 34359738367, 68719476735, 137438953471, 274877906943, 274877906943, 274877906943, 1374389534719, 274877906943, 7971459301375, 16767552323583, 34359738367999, 274877906943, 139912854634495, 280650342989823, 274877906943, 1125899906842623, 2251799813685247, 4503599627370495]
theorem sfS.tab1 : rtab .any (opsOf Try.f14 1) = sfS.T1 := by kernel_rfl
theorem sfS.bits1 : waitsOk sfS.T1.2 sfS.B1 = true := by kernel_rfl
def sfS.T3 : Bool × List (List Nat × List Nat) := (true, [([], []), ([0], [0]), ([], []), ([1, 2], [1, 2]), ([3], [3]), ([4], [4]), ([], []), ([5, 6], [5, 6]), ([7], [7]), ([], []), ([8, 9], [8, 9]), ([10, 10, 0, 1, 2, 3, 4, 5, 6, 7, 8, 9, 10], [10]), ([11, 0, 1, 2, 3, 4, 5, 6, 7, 8, 9, 10, 11], [])])
def sfS.B3 : List Nat := [0, 1, 0, 7, 15, 31, 0, 127, 255, 0, 1023, 2047, 4095]
theorem sfS.tab3 : rtab .any (opsOf Try.f14 3) = sfS.T3 := by kernel_rfl
theorem sfS.bits3 : waitsOk sfS.T3.2 sfS.B3 = true := by kernel_rfl
def sfI.T3 : Bool × List (List Nat × List Nat) := (true, [([], []), ([], []), ([1], [1]), ([], []), ([2, 3], [2, 3]), ([], []), ([5], [5]), ([], []), ([6, 7], [6, 7]), ([8], [8]), ([9], [9]), ([], []), ([10, 11], [10, 11]), ([12], [12]), ([0, 4, 13], [0, 4, 13]), ([14], [14]), ([14], [14]), ([15, 14, 0, 1, 2, 3, 4, 5, 6, 7, 8, 9, 10, 11, 12, 13, 14, 15, 16], [15]), ([16, 17, 0, 1, 2, 3, 4, 5, 6, 7, 8, 9, 10, 11, 12, 13, 14, 15, 16, 17], [16])])
def sfI.B3 : List Nat := [0, 0, 2, 0, 14, 0, 32, 0, 224, 480, 992, 0, 4064, 8160, 16383, 32767, 32767, 131071, 262143]
theorem sfI.tab3 : rtab .any (opsOf Try.f17 3) = sfI.T3 := by kernel_rfl
theorem sfI.bits3 : waitsOk sfI.T3.2 sfI.B3 = true := by kernel_rfl
set_option maxHeartbeats 8000000 in
set_option maxRecDepth 100000 in
theorem cStepFI (x : Image) (fn at_ : Int) (s : State) (cs : List Value) (A0 : Option Addr) (c0 : Nat) (A1 : Option Addr) (c1 : Nat) (w : World) (l0 : x.funcs.length ≤ c0) (g0 : kFuncI.C w A0 x.funcs.length x.funcs) (l1 : x.consts.length ≤ c1) (g1 : kConst.C w A1 x.consts.length x.consts) (hn : ∀ y ∈ x.consts, 0 ≤ y.num ∧ y.num < 18446744073709551616) (hk : kStateI.K w s cs) (hl : s.regs.length ≤ 1048576) :
    Calls Try.prog 17 #[.agg #[.slice A0 x.funcs.length c0, .slice A1 x.consts.length c1], .int .i64 fn, .int .i64 at_, .agg ⟨cs⟩] w fun e w' => ∃ ds, e = .returned (.tuple #[.agg ⟨ds⟩, .bool (sfOk x fn at_ s)]) ∧ kStateI.M w' w.heap.size (fun _ => True) (sfRes x fn at_ s) ds ∧ Below w.heap.size w w' := by
  obtain ⟨AR, cR, rfl, hcR, hr⟩ := kStateI_open hk
  have hu := Try.underlying37; have hu1 := Try.underlying34; have hu2 := Try.underlying31; have hu3 := Try.underlying73; have hu4 := Try.underlying26; have hu5 := Try.underlying70; have hu6 := Try.underlying76
  have G0 := Aside0.mk g0; have G1 := Aside0.mk g1; have HN := Aside0.mk hn; have L0 := Aside0.mk l0; have L1 := Aside0.mk l1; have HK := Aside0.mk hk
  have hlen : x.funcs.length ≤ 9223372036854775807 := g0.2.1
  clear g0 g1 hn l0 l1 hk hr hcR
  have M0 := Aside0.mk ((((Mem.start w).allocAt rfl #[.slice A0 x.funcs.length c0, .slice A1 x.consts.length c1] 37).allocAt (g := w.heap.size + 1) (by simp) #[.int .i64 s.acc, .slice AR s.regs.length cR] 31).allocAt (g := w.heap.size + 2) (by simp) #[.int .i64 0, .slice none 0 0] 31)
  have i4 : IntKind.i64.wrap ((x.funcs.length : Int) - 1) = (x.funcs.length : Int) - 1 := IntWalk.i64_in _ (by omega)
  have i5 : wrap64 ((x.funcs.length : Int) - 1) = (x.funcs.length : Int) - 1 := by unfold wrap64; omega
  have z0 := M0.out.box (.tail _ (.tail _ (.head _))); have z1 := M0.out.box (.tail _ (.head _))
  go_enter Try.func17, Try.ntmps17
  go_wp2_with fail
  refine (cImageOkI x A0 c0 A1 c1 _ L0.out (Kd.C_below G0.out M0.out.below) L1.out (Kd.C_below G1.out M0.out.below) HN.out).mono ?_
  rintro e w1 ⟨rfl, hb⟩
  have M1 := Aside0.mk (M0.out.step hb); clear hb M0 z0 z1
  have z0 := M1.out.box (.tail _ (.tail _ (.head _))); have z1 := M1.out.box (.tail _ (.head _))
  rcases Bool.eq_false_or_eq_true (imgB x) with hi | hi
  rotate_left
  · rw [hi]
    have HI := Aside0.mk hi; clear hi
    have HOK := Aside0.mk (show sfOk x fn at_ s = false from by unfold sfOk sfIn; rw [HI.out]; rfl)
    have HS := Aside0.mk (sf_no HOK.out)
    have b0 := M1.out.box (.head _); have b1 := M1.out.free (.head _)
    have M8 := Aside0.mk (Mem.set (A := []) (Mem.set (A := []) M1.out 0 (.int .i64 0) rfl) 1 (.slice none 0 0) rfl)
    go_wp2
    refine bodyPost_ret (results_ct rfl _ _ (w.heap.size + 2) 31 #[.int .i64 0, .slice none 0 0] (0, 0) _ rfl (M8.out.blk (.head _)) hu2 rfl (by kernel_rfl)) rfl ?_
    refine ⟨_, congrArg Ending.returned (by rw [HOK.out]; rfl), ?_, M8.out.below⟩
    rw [HS.out]
    exact kStateI_mkM _ _ _ zState (Kd.R_nil _ _ _ _ _)
  rw [hi]
  have HI := Aside0.mk hi; clear hi
  go_wp2_with fail
  refine (impl_within.calls _ _ _ _ _ (Img.impl_in fn 0 ((x.funcs.length : Int) - 1))).mono ?_; rintro e w2 ⟨rfl, ⟨⟨n1, rfl⟩⟩⟩
  have M2 := Aside0.mk (M1.out.draw n1); clear M1 z0 z1
  generalize w1.drewN n1 = w2 at M2 ⊢
  have z0 := M2.out.box (.tail _ (.tail _ (.head _))); have z1 := M2.out.box (.tail _ (.head _))
  rcases Bool.eq_false_or_eq_true (Img.inB fn 0 ((x.funcs.length : Int) - 1)) with hf | hf
  rotate_left
  · rw [hf]
    have HF := Aside0.mk hf; clear hf
    have HOK := Aside0.mk (show sfOk x fn at_ s = false from by unfold sfOk sfIn; rw [HF.out]; simp)
    have HS := Aside0.mk (sf_no HOK.out)
    have b0 := M2.out.box (.head _); have b1 := M2.out.free (.head _)
    have M8 := Aside0.mk (Mem.set (A := []) (Mem.set (A := []) M2.out 0 (.int .i64 0) rfl) 1 (.slice none 0 0) rfl)
    go_wp2
    refine bodyPost_ret (results_ct rfl _ _ (w.heap.size + 2) 31 #[.int .i64 0, .slice none 0 0] (0, 0) _ rfl (M8.out.blk (.head _)) hu2 rfl (by kernel_rfl)) rfl ?_
    refine ⟨_, congrArg Ending.returned (by rw [HOK.out]; rfl), ?_, M8.out.below⟩
    rw [HS.out]
    exact kStateI_mkM _ _ _ zState (Kd.R_nil _ _ _ _ _)
  rw [hf]
  have HF := Aside0.mk hf; clear hf
  have hfr := of_decide_eq_true (show decide (0 ≤ fn ∧ fn ≤ (x.funcs.length : Int) - 1) = true from HF.out)
  obtain ⟨j, hje⟩ : ∃ j : Nat, fn = j := ⟨fn.toNat, by omega⟩
  subst hje
  have hj : j < x.funcs.length := by omega
  have hj0 : (0 : Int) ≤ (j : Int) := by omega
  have hj1 : (j : Int) < (x.funcs.length : Int) := by omega
  have ok := fn_ok HI.out (el_mem zFunc hj)
  obtain ⟨fa0, A2, c2, A3, c3, A4, c4, hfa, x0, x1, x2, x3, x4, hcap, hcode, hhan⟩ := func_at5 G0.out j hj
  cases hfa
  obtain ⟨ff, hfe⟩ : ∃ ff, ff = el zFunc x.funcs j := ⟨_, rfl⟩
  have HFA := Aside0.mk (show fnAt x (j : Int) = ff from hfe.symm)
  rw [← hfe] at x1 x3 hcode ok
  have F1 := Aside0.mk x1; have F3 := Aside0.mk x3; have HCD := Aside0.mk hcode; have HFE := Aside0.mk hfe; have OK := Aside0.mk ok
  have hkl := ok.kl; have hrg := ok.rg; have hpr := ok.pr
  clear hfe x0 x1 x2 x3 x4 hcap hcode hhan ok hfr
  have i6 : IntKind.i64.wrap ((ff.code.length : Int) - 1) = (ff.code.length : Int) - 1 := IntWalk.i64_in _ (by omega)
  have i7 : wrap64 ((ff.code.length : Int) - 1) = (ff.code.length : Int) - 1 := by unfold wrap64; omega
  have y3 := pw_cell_below M2.out.below F3.out
  go_wp2_with fail
  refine (impl_within.calls _ _ _ _ _ (Img.impl_in at_ 0 ((ff.code.length : Int) - 1))).mono ?_; rintro e w3 ⟨rfl, ⟨⟨n2, rfl⟩⟩⟩
  have M3 := Aside0.mk (M2.out.draw n2); clear M2 z0 z1 y3
  generalize w2.drewN n2 = w3 at M3 ⊢
  have z0 := M3.out.box (.tail _ (.tail _ (.head _))); have z1 := M3.out.box (.tail _ (.head _)); have y3 := pw_cell_below M3.out.below F3.out
  rcases Bool.eq_false_or_eq_true (Img.inB at_ 0 ((ff.code.length : Int) - 1)) with ha | ha
  rotate_left
  · rw [ha]
    have HA := Aside0.mk ha; clear ha
    have HOK := Aside0.mk (show sfOk x (j : Int) at_ s = false from by unfold sfOk sfIn; rw [HFA.out, HA.out]; simp)
    have HS := Aside0.mk (sf_no HOK.out)
    have b0 := M3.out.box (.head _); have b1 := M3.out.free (.head _)
    have M8 := Aside0.mk (Mem.set (A := []) (Mem.set (A := []) M3.out 0 (.int .i64 0) rfl) 1 (.slice none 0 0) rfl)
    go_wp2
    refine bodyPost_ret (results_ct rfl _ _ (w.heap.size + 2) 31 #[.int .i64 0, .slice none 0 0] (0, 0) _ rfl (M8.out.blk (.head _)) hu2 rfl (by kernel_rfl)) rfl ?_
    refine ⟨_, congrArg Ending.returned (by rw [HOK.out]; rfl), ?_, M8.out.below⟩
    rw [HS.out]
    exact kStateI_mkM _ _ _ zState (Kd.R_nil _ _ _ _ _)
  rw [ha]
  have HA := Aside0.mk ha; clear ha
  have hfr := of_decide_eq_true (show decide (0 ≤ at_ ∧ at_ ≤ (ff.code.length : Int) - 1) = true from HA.out)
  obtain ⟨p, hpe⟩ : ∃ p : Nat, at_ = p := ⟨at_.toNat, by omega⟩
  subst hpe
  have hp : p < ff.code.length := by omega
  have hp0 : (0 : Int) ≤ (p : Int) := by omega
  have hp1 : (p : Int) < (ff.code.length : Int) := by omega
  obtain ⟨ka, hka, kK, k0, k1, k2⟩ := Ins_at HCD.out.2 p hp
  cases hka
  obtain ⟨i, hie⟩ : ∃ i, i = el zIns ff.code p := ⟨_, rfl⟩
  rw [← hie] at k0 k1 k2
  have HIE := Aside0.mk (show insAt x (j : Int) (p : Int) = i from by unfold insAt; rw [HFA.out]; exact hie.symm)
  have HIM := Aside0.mk (OK.out.code i (by rw [hie]; exact el_mem zIns hp))
  have I0 := Aside0.mk k0; have I1 := Aside0.mk k1; have I2 := Aside0.mk k2
  clear hie kK k0 k1 k2 hfr
  go_upto_region 3 with fail
  clear z0 z1 y3
  refine sz 19 (fun W => W.cell? ⟨w.heap.size + 1, 0, none⟩ = some (.int .i64 s.acc) ∧ W.cell? ⟨w.heap.size + 1, 1, none⟩ = some (.slice AR s.regs.length cR) ∧ W.cell? ⟨w.heap.size, 0, none⟩ = some (.slice (some fa0) x.funcs.length c0) ∧ W.cell? ⟨(fa0.add (j * 5)).block, (fa0.add (j * 5)).off + 3, none⟩ = some (.slice (some ka) ff.code.length c3) ∧ W.cell? (ka.add (p * 3)) = some (.int .i64 i.op) ∧ W.cell? ⟨(ka.add (p * 3)).block, (ka.add (p * 3)).off + 1, none⟩ = some (.int .i64 i.a) ∧ W.cell? ⟨(ka.add (p * 3)).block, (ka.add (p * 3)).off + 2, none⟩ = some (.int .i64 i.b)) [17] sfI.tab3 sfI.bits3 ⟨(M3.out.drew.box (.tail _ (.head _)) 0).trans rfl, (M3.out.drew.box (.tail _ (.head _)) 1).trans rfl, (M3.out.drew.box (.tail _ (.tail _ (.head _))) 0).trans rfl, pw_cell_below M3.out.drew.below F3.out, pw_cell_below M3.out.drew.below I0.out, pw_cell_below M3.out.drew.below I1.out, pw_cell_below M3.out.drew.below I2.out⟩ (fun HT_ HW_ hHeld => ?_)
  have MD := Aside0.mk M3.out.drew
  clear M3
  refine pz 1 37 ?_; refine pz 3 39 ?_; refine pz 5 41 ?_; refine pz 7 43 ?_; refine pz 11 47 ?_; refine tz 0 36 ?_; refine tz 2 38 ?_; refine pz 4 40 ?_; refine tz 6 42 ?_; refine pz 8 44 ?_; refine pz 9 45 ?_; refine tz 10 46 ?_; refine pz 12 48 ?_; refine tz 13 49 ?_
  refine ez 14 (some 50) (fun K hK => ?_)
  refine gz Try.func61 #[.agg #[.int .i64 s.acc, .slice AR s.regs.length cR], .pointer (some ⟨w.heap.size, 0, none⟩), .pointer (some (fa0.add (j * 5))), .agg #[.int .i64 i.op, .int .i64 i.a, .int .i64 i.b]] ?_
  have C := cStepped x j s i _ w.heap.size fa0 c0 A1 c1 _ (kStateI.K_below MD.out.below HK.out) hl ((MD.out.box (.tail _ (.tail _ (.head _))) 0).trans rfl) ((MD.out.box (.tail _ (.tail _ (.head _))) 1).trans rfl) (Kd.C_below G0.out MD.out.below) hj (by have := OK.out.fl; omega) (by rw [← HFE.out]; have := OK.out.cl; omega) HIM.out.1 HIM.out.2.1 HIM.out.2.2
  rw [← HFE.out] at C
  refine C.mono ?_; clear C; rintro e w5 ⟨ds, rfl, hm, hb5⟩; obtain ⟨nx, hnx⟩ : ∃ nx, nx = stepped x ff i s := ⟨_, rfl⟩
  rw [← hnx] at hm
  obtain ⟨v9, rfl, hr9⟩ := kStateI_openM hm; obtain ⟨X9, y9, rfl⟩ := Kd.R_slice hr9
  have M5 := Aside0.mk (MD.out.push hb5 hm); clear hm hb5 hr9
  have HNX := Aside0.mk hnx; clear hnx
  refine ⟨_, rfl, ?_⟩
  refine hK.out _ _ ⟨(M5.out.box (.tail _ (.tail _ (.head _))) 0).trans rfl, (M5.out.box (.tail _ (.tail _ (.head _))) 1).trans rfl, (M5.out.box (.tail _ (.tail _ (.tail _ (.head _)))) 0).trans rfl, pw_cell_below M5.out.below F3.out, pw_cell_below M5.out.below I0.out, pw_cell_below M5.out.below I1.out, pw_cell_below M5.out.below I2.out⟩ (fun hHeld => ?_); clear hK K; refine kz (some 50) ?_
  refine pz 15 51 ?_; refine pz 16 52 ?_
  refine lz 17 none (fun K hK => ?_)
  have b0 := M5.out.box (.tail _ (.head _)); have b1 := M5.out.free (.tail _ (.head _))
  refine skip_ (w1 := ?_) (by rfl) rfl ?_ ?_
  rotate_left
  · go_simp
    rfl
  clear b0 b1
  refine hK.out _ _ ?_; clear hK K
  refine pz 18 9 ?_
  refine dz ?_
  have HOK := Aside0.mk (show sfOk x (j : Int) (p : Int) s = stepOk x ff i s from by unfold sfOk sfIn; rw [HI.out, HF.out, HFA.out, HA.out, HIE.out]; rfl)
  have HRS := Aside0.mk (show sfRes x (j : Int) (p : Int) s = nx from by
    rw [HNX.out]
    unfold sfRes stepped
    rw [HOK.out, HIE.out])
  clear hHeld
  have M8 := Aside0.mk (Mem.set (A := [_]) (Mem.set (A := [_]) M5.out 0 (.int .i64 nx.acc) rfl) 1 (.slice X9 nx.regs.length y9) rfl)
  try go_wp2
  refine bodyPost_ret (results_ct rfl _ _ (w.heap.size + 2) 31 #[.int .i64 nx.acc, .slice X9 nx.regs.length y9] (0, 0) _ rfl (M8.out.blk (.tail _ (.head _))) hu2 rfl (by kernel_rfl)) rfl ?_
  refine ⟨_, congrArg Ending.returned (by rw [HOK.out]; rfl), ?_, M8.out.below⟩
  rw [HRS.out]
  have HV := M8.out.val (.head _)
  exact kStateI.M_mono (fun _ _ => trivial) (kStateI.M_lower (M8.out.fits _ (.head _)).1 HV)
set_option maxHeartbeats 8000000 in
set_option maxRecDepth 100000 in
theorem cStepFS (x : Image) (fn at_ : Int) (s : State) (cs : List Value) (A0 : Option Addr) (c0 : Nat) (A1 : Option Addr) (c1 : Nat) (w : World) (l0 : x.funcs.length ≤ c0) (g0 : kFuncI.C w A0 x.funcs.length x.funcs) (l1 : x.consts.length ≤ c1) (g1 : kConst.C w A1 x.consts.length x.consts) (hn : ∀ y ∈ x.consts, 0 ≤ y.num ∧ y.num < 18446744073709551616) (hk : kStateI.K w s cs) (hl : s.regs.length ≤ 1048576) :
    Calls Try.prog 14 #[.agg #[.slice A0 x.funcs.length c0, .slice A1 x.consts.length c1], .int .i64 fn, .int .i64 at_, .agg ⟨cs⟩] w fun e w' => ∃ ds, e = .returned (.tuple #[.agg ⟨ds⟩, .bool (sfOk x fn at_ s)]) ∧ kStateI.M w' w.heap.size (fun _ => True) (sfRes x fn at_ s) ds ∧ Below w.heap.size w w' := by
  obtain ⟨AR, cR, rfl, hcR, hr⟩ := kStateI_open hk
  have hu := Try.underlying37; have hu1 := Try.underlying34; have hu2 := Try.underlying31; have hu3 := Try.underlying73; have hu4 := Try.underlying26; have hu5 := Try.underlying70; have hu6 := Try.underlying76
  have G0 := Aside0.mk g0; have G1 := Aside0.mk g1; have HN := Aside0.mk hn; have L0 := Aside0.mk l0; have L1 := Aside0.mk l1; have HK := Aside0.mk hk
  have hlen : x.funcs.length ≤ 9223372036854775807 := g0.2.1
  clear g0 g1 hn l0 l1 hk hr hcR
  have M0 := Aside0.mk ((((Mem.start w).allocAt rfl #[.slice A0 x.funcs.length c0, .slice A1 x.consts.length c1] 37).allocAt (g := w.heap.size + 1) (by simp) #[.int .i64 s.acc, .slice AR s.regs.length cR] 31).allocAt (g := w.heap.size + 2) (by simp) #[.int .i64 0, .slice none 0 0] 31)
  have i4 : IntKind.i64.wrap ((x.funcs.length : Int) - 1) = (x.funcs.length : Int) - 1 := IntWalk.i64_in _ (by omega)
  have i5 : wrap64 ((x.funcs.length : Int) - 1) = (x.funcs.length : Int) - 1 := by unfold wrap64; omega
  go_enter Try.func14, Try.ntmps14
  go_upto_region 1 with fail
  generalize ((w.alloc (.cells #[.slice A0 x.funcs.length c0, .slice A1 x.consts.length c1] 37)).alloc (.cells #[.int .i64 s.acc, .slice AR s.regs.length cR] 31)).alloc (.cells #[.int .i64 0, .slice none 0 0] 31) = wq at M0 ⊢
  rcases Bool.eq_false_or_eq_true (imgB x) with hi | hi
  rotate_left
  · have HI := Aside0.mk hi; clear hi
    refine sz 53 (fun W => W.cell? ⟨w.heap.size, 0, none⟩ = some (.slice A0 x.funcs.length c0) ∧ W.cell? ⟨w.heap.size, 1, none⟩ = some (.slice A1 x.consts.length c1)) [] sfS.tab1 sfS.bits1 ⟨(M0.out.drew.box (.tail _ (.tail _ (.head _))) 0).trans rfl, (M0.out.drew.box (.tail _ (.tail _ (.head _))) 1).trans rfl⟩ (fun HT_ HW_ hHeld => ?_)
    have MD := Aside0.mk M0.out.drew
    generalize wq.drew = wd at MD hHeld ⊢
    refine tz 0 10 ?_
    refine ez 1 (some 11) (fun K hK => ?_)
    refine gz Try.func52 #[.agg #[.slice A0 x.funcs.length c0, .slice A1 x.consts.length c1]] ?_
    have C := cImageOkS x A0 c0 A1 c1 _ L0.out (Kd.C_below G0.out MD.out.below) L1.out (Kd.C_below G1.out MD.out.below) HN.out
    rw [HI.out] at C
    refine C.mono ?_; clear C; rintro e w5 ⟨rfl, hb5⟩
    have M5 := Aside0.mk (MD.out.step hb5); clear hb5
    refine ⟨_, rfl, ?_⟩
    refine hK.out _ _ ⟨(M5.out.box (.tail _ (.tail _ (.head _))) 0).trans rfl, (M5.out.box (.tail _ (.tail _ (.head _))) 1).trans rfl⟩ (fun hHeld => ?_); clear hK K; refine kz (some 11) ?_
    refine pz 2 12 ?_; refine pz 3 13 ?_; refine oz 4 14 ?_; refine oz 5 15 ?_; refine oz 6 16 ?_; refine oz 7 17 ?_; refine oz 8 18 ?_; refine oz 9 19 ?_; refine oz 10 20 ?_; refine pz 11 21 ?_; refine pz 12 22 ?_; refine oz 13 23 ?_; refine oz 14 24 ?_; refine oz 15 25 ?_; refine oz 16 26 ?_; refine oz 17 27 ?_; refine oz 18 28 ?_; refine oz 19 29 ?_; refine oz 20 30 ?_; refine oz 21 31 ?_; refine oz 22 32 ?_; refine oz 23 33 ?_; refine pz 24 34 ?_; refine pz 25 35 ?_; refine oz 26 36 ?_; refine oz 27 37 ?_; refine oz 28 38 ?_; refine oz 29 39 ?_; refine oz 30 40 ?_; refine oz 31 41 ?_; refine oz 32 42 ?_; refine oz 33 43 ?_; refine oz 34 44 ?_; refine oz 35 45 ?_; refine pz 36 46 ?_; refine pz 37 47 ?_; refine oz 38 48 ?_; refine oz 39 49 ?_; refine oz 40 50 ?_; refine oz 41 51 ?_; refine oz 42 52 ?_; refine oz 43 53 ?_; refine oz 44 54 ?_; refine oz 45 55 ?_; refine oz 46 56 ?_; refine oz 47 57 ?_; refine oz 48 58 ?_; refine oz 49 59 ?_; refine oz 50 60 ?_; refine oz 51 61 ?_; refine pz 52 62 ?_
    refine dz ?_
    clear hHeld
    have HOK := Aside0.mk (show sfOk x fn at_ s = false from by unfold sfOk sfIn; rw [HI.out]; rfl)
    have HS := Aside0.mk (sf_no HOK.out)
    have b0 := M5.out.box (.head _); have b1 := M5.out.free (.head _)
    have M8 := Aside0.mk (Mem.set (A := []) (Mem.set (A := []) M5.out 0 (.int .i64 0) rfl) 1 (.slice none 0 0) rfl)
    go_wp2
    refine bodyPost_ret (results_ct rfl _ _ (w.heap.size + 2) 31 #[.int .i64 0, .slice none 0 0] (0, 0) _ rfl (M8.out.blk (.head _)) hu2 rfl (by kernel_rfl)) rfl ?_
    refine ⟨_, congrArg Ending.returned (by rw [HOK.out]; rfl), ?_, M8.out.below⟩
    rw [HS.out]
    exact kStateI_mkM _ _ _ zState (Kd.R_nil _ _ _ _ _)
  have HI := Aside0.mk hi; clear hi
  rcases Bool.eq_false_or_eq_true (Img.inB fn 0 ((x.funcs.length : Int) - 1)) with hf | hf
  rotate_left
  · have HF := Aside0.mk hf; clear hf
    refine sz 53 (fun W => W.cell? ⟨w.heap.size, 0, none⟩ = some (.slice A0 x.funcs.length c0) ∧ W.cell? ⟨w.heap.size, 1, none⟩ = some (.slice A1 x.consts.length c1)) [] sfS.tab1 sfS.bits1 ⟨(M0.out.drew.box (.tail _ (.tail _ (.head _))) 0).trans rfl, (M0.out.drew.box (.tail _ (.tail _ (.head _))) 1).trans rfl⟩ (fun HT_ HW_ hHeld => ?_)
    have MD := Aside0.mk M0.out.drew
    generalize wq.drew = wd at MD hHeld ⊢
    refine tz 0 10 ?_
    refine ez 1 (some 11) (fun K hK => ?_)
    refine gz Try.func52 #[.agg #[.slice A0 x.funcs.length c0, .slice A1 x.consts.length c1]] ?_
    have C := cImageOkS x A0 c0 A1 c1 _ L0.out (Kd.C_below G0.out MD.out.below) L1.out (Kd.C_below G1.out MD.out.below) HN.out
    rw [HI.out] at C
    refine C.mono ?_; clear C; rintro e w5 ⟨rfl, hb5⟩
    have M5 := Aside0.mk (MD.out.step hb5); clear hb5
    refine ⟨_, rfl, ?_⟩
    refine hK.out _ _ ⟨(M5.out.box (.tail _ (.tail _ (.head _))) 0).trans rfl, (M5.out.box (.tail _ (.tail _ (.head _))) 1).trans rfl⟩ (fun hHeld => ?_); clear hK K; refine kz (some 11) ?_
    refine pz 2 12 ?_; refine pz 3 13 ?_; refine pz 4 14 ?_; refine pz 5 15 ?_; refine tz 6 16 ?_; refine pz 7 17 ?_; refine pz 8 18 ?_
    refine ez 9 (some 19) (fun K hK => ?_)
    refine gz Try.func53 #[.int .i64 fn, .int .i64 0, .int .i64 ((x.funcs.length : Int) - 1)] ?_
    have C := spec_l01In.calls _ _ _ _ w5 (Img.spec_in fn 0 ((x.funcs.length : Int) - 1))
    rw [HF.out] at C
    refine C.mono ?_; clear C; rintro e w6 ⟨rfl, ⟨⟨n1, rfl⟩⟩⟩
    have M6 := Aside0.mk (M5.out.draw n1)
    generalize w5.drewN n1 = w6 at M6 ⊢
    refine ⟨_, rfl, ?_⟩
    refine hK.out _ _ ⟨(M6.out.box (.tail _ (.tail _ (.head _))) 0).trans rfl, (M6.out.box (.tail _ (.tail _ (.head _))) 1).trans rfl⟩ (fun hHeld => ?_); clear hK K; refine kz (some 19) ?_
    refine pz 10 20 ?_; refine pz 11 21 ?_; refine pz 12 22 ?_; refine oz 13 23 ?_; refine oz 14 24 ?_; refine oz 15 25 ?_; refine oz 16 26 ?_; refine oz 17 27 ?_; refine oz 18 28 ?_; refine oz 19 29 ?_; refine oz 20 30 ?_; refine oz 21 31 ?_; refine oz 22 32 ?_; refine oz 23 33 ?_; refine pz 24 34 ?_; refine pz 25 35 ?_; refine oz 26 36 ?_; refine oz 27 37 ?_; refine oz 28 38 ?_; refine oz 29 39 ?_; refine oz 30 40 ?_; refine oz 31 41 ?_; refine oz 32 42 ?_; refine oz 33 43 ?_; refine oz 34 44 ?_; refine oz 35 45 ?_; refine pz 36 46 ?_; refine pz 37 47 ?_; refine oz 38 48 ?_; refine oz 39 49 ?_; refine oz 40 50 ?_; refine oz 41 51 ?_; refine oz 42 52 ?_; refine oz 43 53 ?_; refine oz 44 54 ?_; refine oz 45 55 ?_; refine oz 46 56 ?_; refine oz 47 57 ?_; refine oz 48 58 ?_; refine oz 49 59 ?_; refine oz 50 60 ?_; refine oz 51 61 ?_; refine pz 52 62 ?_
    refine dz ?_
    clear hHeld
    have HOK := Aside0.mk (show sfOk x fn at_ s = false from by unfold sfOk sfIn; rw [HF.out]; simp)
    have HS := Aside0.mk (sf_no HOK.out)
    have b0 := M6.out.box (.head _); have b1 := M6.out.free (.head _)
    have M8 := Aside0.mk (Mem.set (A := []) (Mem.set (A := []) M6.out 0 (.int .i64 0) rfl) 1 (.slice none 0 0) rfl)
    go_wp2
    refine bodyPost_ret (results_ct rfl _ _ (w.heap.size + 2) 31 #[.int .i64 0, .slice none 0 0] (0, 0) _ rfl (M8.out.blk (.head _)) hu2 rfl (by kernel_rfl)) rfl ?_
    refine ⟨_, congrArg Ending.returned (by rw [HOK.out]; rfl), ?_, M8.out.below⟩
    rw [HS.out]
    exact kStateI_mkM _ _ _ zState (Kd.R_nil _ _ _ _ _)
  have HF := Aside0.mk hf; clear hf
  have hfr := of_decide_eq_true (show decide (0 ≤ fn ∧ fn ≤ (x.funcs.length : Int) - 1) = true from HF.out)
  obtain ⟨j, hje⟩ : ∃ j : Nat, fn = j := ⟨fn.toNat, by omega⟩
  subst hje
  have hj : j < x.funcs.length := by omega
  have hj0 : (0 : Int) ≤ (j : Int) := by omega
  have hj1 : (j : Int) < (x.funcs.length : Int) := by omega
  have ok := fn_ok HI.out (el_mem zFunc hj)
  obtain ⟨fa0, A2, c2, A3, c3, A4, c4, hfa, x0, x1, x2, x3, x4, hcap, hcode, hhan⟩ := func_at5 G0.out j hj
  cases hfa
  obtain ⟨ff, hfe⟩ : ∃ ff, ff = el zFunc x.funcs j := ⟨_, rfl⟩
  have HFA := Aside0.mk (show fnAt x (j : Int) = ff from hfe.symm)
  rw [← hfe] at x1 x3 hcode ok
  have F1 := Aside0.mk x1; have F3 := Aside0.mk x3; have HCD := Aside0.mk hcode; have HFE := Aside0.mk hfe; have OK := Aside0.mk ok
  have hkl := ok.kl; have hrg := ok.rg; have hpr := ok.pr
  clear hfe x0 x1 x2 x3 x4 hcap hcode hhan ok hfr
  have i6 : IntKind.i64.wrap ((ff.code.length : Int) - 1) = (ff.code.length : Int) - 1 := IntWalk.i64_in _ (by omega)
  have i7 : wrap64 ((ff.code.length : Int) - 1) = (ff.code.length : Int) - 1 := by unfold wrap64; omega
  rcases Bool.eq_false_or_eq_true (Img.inB at_ 0 ((ff.code.length : Int) - 1)) with ha | ha
  rotate_left
  · have HA := Aside0.mk ha; clear ha
    refine sz 53 (fun W => W.cell? ⟨w.heap.size, 0, none⟩ = some (.slice (some fa0) x.funcs.length c0) ∧ W.cell? ⟨w.heap.size, 1, none⟩ = some (.slice A1 x.consts.length c1) ∧ W.cell? ⟨(fa0.add (j * 5)).block, (fa0.add (j * 5)).off + 3, none⟩ = some (.slice A3 ff.code.length c3)) [] sfS.tab1 sfS.bits1 ⟨(M0.out.drew.box (.tail _ (.tail _ (.head _))) 0).trans rfl, (M0.out.drew.box (.tail _ (.tail _ (.head _))) 1).trans rfl, pw_cell_below M0.out.drew.below F3.out⟩ (fun HT_ HW_ hHeld => ?_)
    have MD := Aside0.mk M0.out.drew
    generalize wq.drew = wd at MD hHeld ⊢
    refine tz 0 10 ?_
    refine ez 1 (some 11) (fun K hK => ?_)
    refine gz Try.func52 #[.agg #[.slice (some fa0) x.funcs.length c0, .slice A1 x.consts.length c1]] ?_
    have C := cImageOkS x (some fa0) c0 A1 c1 _ L0.out (Kd.C_below G0.out MD.out.below) L1.out (Kd.C_below G1.out MD.out.below) HN.out
    rw [HI.out] at C
    refine C.mono ?_; clear C; rintro e w5 ⟨rfl, hb5⟩
    have M5 := Aside0.mk (MD.out.step hb5); clear hb5
    refine ⟨_, rfl, ?_⟩
    refine hK.out _ _ ⟨(M5.out.box (.tail _ (.tail _ (.head _))) 0).trans rfl, (M5.out.box (.tail _ (.tail _ (.head _))) 1).trans rfl, pw_cell_below M5.out.below F3.out⟩ (fun hHeld => ?_); clear hK K; refine kz (some 11) ?_
    refine pz 2 12 ?_; refine pz 3 13 ?_; refine pz 4 14 ?_; refine pz 5 15 ?_; refine tz 6 16 ?_; refine pz 7 17 ?_; refine pz 8 18 ?_
    refine ez 9 (some 19) (fun K hK => ?_)
    refine gz Try.func53 #[.int .i64 (j : Int), .int .i64 0, .int .i64 ((x.funcs.length : Int) - 1)] ?_
    have C := spec_l01In.calls _ _ _ _ w5 (Img.spec_in (j : Int) 0 ((x.funcs.length : Int) - 1))
    rw [HF.out] at C
    refine C.mono ?_; clear C; rintro e w6 ⟨rfl, ⟨⟨n1, rfl⟩⟩⟩
    have M6 := Aside0.mk (M5.out.draw n1)
    generalize w5.drewN n1 = w6 at M6 ⊢
    refine ⟨_, rfl, ?_⟩
    refine hK.out _ _ ⟨(M6.out.box (.tail _ (.tail _ (.head _))) 0).trans rfl, (M6.out.box (.tail _ (.tail _ (.head _))) 1).trans rfl, pw_cell_below M6.out.below F3.out⟩ (fun hHeld => ?_); clear hK K; refine kz (some 19) ?_
    refine pz 10 20 ?_; refine pz 11 21 ?_; refine pz 12 22 ?_; refine pz 13 23 ?_; refine pz 14 24 ?_; refine pz 16 26 ?_; refine tz 15 25 ?_; refine pz 17 27 ?_; refine pz 18 28 ?_; refine tz 19 29 ?_; refine pz 20 30 ?_; refine pz 21 31 ?_
    refine ez 22 (some 32) (fun K hK => ?_)
    refine gz Try.func53 #[.int .i64 at_, .int .i64 0, .int .i64 ((ff.code.length : Int) - 1)] ?_
    have C := spec_l01In.calls _ _ _ _ w6 (Img.spec_in at_ 0 ((ff.code.length : Int) - 1))
    rw [HA.out] at C
    refine C.mono ?_; clear C; rintro e w7 ⟨rfl, ⟨⟨n2, rfl⟩⟩⟩
    have M7 := Aside0.mk (M6.out.draw n2)
    generalize w6.drewN n2 = w7 at M7 ⊢
    refine ⟨_, rfl, ?_⟩
    refine hK.out _ _ ⟨(M7.out.box (.tail _ (.tail _ (.head _))) 0).trans rfl, (M7.out.box (.tail _ (.tail _ (.head _))) 1).trans rfl, pw_cell_below M7.out.below F3.out⟩ (fun hHeld => ?_); clear hK K; refine kz (some 32) ?_
    refine pz 23 33 ?_; refine pz 24 34 ?_; refine pz 25 35 ?_; refine oz 26 36 ?_; refine oz 27 37 ?_; refine oz 28 38 ?_; refine oz 29 39 ?_; refine oz 30 40 ?_; refine oz 31 41 ?_; refine oz 32 42 ?_; refine oz 33 43 ?_; refine oz 34 44 ?_; refine oz 35 45 ?_; refine pz 36 46 ?_; refine pz 37 47 ?_; refine oz 38 48 ?_; refine oz 39 49 ?_; refine oz 40 50 ?_; refine oz 41 51 ?_; refine oz 42 52 ?_; refine oz 43 53 ?_; refine oz 44 54 ?_; refine oz 45 55 ?_; refine oz 46 56 ?_; refine oz 47 57 ?_; refine oz 48 58 ?_; refine oz 49 59 ?_; refine oz 50 60 ?_; refine oz 51 61 ?_; refine pz 52 62 ?_
    refine dz ?_
    clear hHeld
    have HOK := Aside0.mk (show sfOk x (j : Int) at_ s = false from by unfold sfOk sfIn; rw [HFA.out, HA.out]; simp)
    have HS := Aside0.mk (sf_no HOK.out)
    have b0 := M7.out.box (.head _); have b1 := M7.out.free (.head _)
    have M8 := Aside0.mk (Mem.set (A := []) (Mem.set (A := []) M7.out 0 (.int .i64 0) rfl) 1 (.slice none 0 0) rfl)
    go_wp2
    refine bodyPost_ret (results_ct rfl _ _ (w.heap.size + 2) 31 #[.int .i64 0, .slice none 0 0] (0, 0) _ rfl (M8.out.blk (.head _)) hu2 rfl (by kernel_rfl)) rfl ?_
    refine ⟨_, congrArg Ending.returned (by rw [HOK.out]; rfl), ?_, M8.out.below⟩
    rw [HS.out]
    exact kStateI_mkM _ _ _ zState (Kd.R_nil _ _ _ _ _)
  have HA := Aside0.mk ha; clear ha
  by_cases hlen2 : (s.regs.length : Int) = ff.regs
  rotate_left
  · have hne : ((s.regs.length : Int) != ff.regs) = true := by simpa using hlen2
    have HLE := Aside0.mk hlen2; clear hlen2
    refine sz 53 (fun W => W.cell? ⟨w.heap.size, 0, none⟩ = some (.slice (some fa0) x.funcs.length c0) ∧ W.cell? ⟨w.heap.size, 1, none⟩ = some (.slice A1 x.consts.length c1) ∧ W.cell? ⟨(fa0.add (j * 5)).block, (fa0.add (j * 5)).off + 3, none⟩ = some (.slice A3 ff.code.length c3) ∧ W.cell? ⟨(fa0.add (j * 5)).block, (fa0.add (j * 5)).off + 1, none⟩ = some (.int .i64 ff.regs) ∧ W.cell? ⟨w.heap.size + 1, 0, none⟩ = some (.int .i64 s.acc) ∧ W.cell? ⟨w.heap.size + 1, 1, none⟩ = some (.slice AR s.regs.length cR)) [] sfS.tab1 sfS.bits1 ⟨(M0.out.drew.box (.tail _ (.tail _ (.head _))) 0).trans rfl, (M0.out.drew.box (.tail _ (.tail _ (.head _))) 1).trans rfl, pw_cell_below M0.out.drew.below F3.out, pw_cell_below M0.out.drew.below F1.out, (M0.out.drew.box (.tail _ (.head _)) 0).trans rfl, (M0.out.drew.box (.tail _ (.head _)) 1).trans rfl⟩ (fun HT_ HW_ hHeld => ?_)
    have MD := Aside0.mk M0.out.drew
    generalize wq.drew = wd at MD hHeld ⊢
    refine tz 0 10 ?_
    refine ez 1 (some 11) (fun K hK => ?_)
    refine gz Try.func52 #[.agg #[.slice (some fa0) x.funcs.length c0, .slice A1 x.consts.length c1]] ?_
    have C := cImageOkS x (some fa0) c0 A1 c1 _ L0.out (Kd.C_below G0.out MD.out.below) L1.out (Kd.C_below G1.out MD.out.below) HN.out
    rw [HI.out] at C
    refine C.mono ?_; clear C; rintro e w5 ⟨rfl, hb5⟩
    have M5 := Aside0.mk (MD.out.step hb5); clear hb5
    refine ⟨_, rfl, ?_⟩
    refine hK.out _ _ ⟨(M5.out.box (.tail _ (.tail _ (.head _))) 0).trans rfl, (M5.out.box (.tail _ (.tail _ (.head _))) 1).trans rfl, pw_cell_below M5.out.below F3.out, pw_cell_below M5.out.below F1.out, (M5.out.box (.tail _ (.head _)) 0).trans rfl, (M5.out.box (.tail _ (.head _)) 1).trans rfl⟩ (fun hHeld => ?_); clear hK K; refine kz (some 11) ?_
    refine pz 2 12 ?_; refine pz 3 13 ?_; refine pz 4 14 ?_; refine pz 5 15 ?_; refine tz 6 16 ?_; refine pz 7 17 ?_; refine pz 8 18 ?_
    refine ez 9 (some 19) (fun K hK => ?_)
    refine gz Try.func53 #[.int .i64 (j : Int), .int .i64 0, .int .i64 ((x.funcs.length : Int) - 1)] ?_
    have C := spec_l01In.calls _ _ _ _ w5 (Img.spec_in (j : Int) 0 ((x.funcs.length : Int) - 1))
    rw [HF.out] at C
    refine C.mono ?_; clear C; rintro e w6 ⟨rfl, ⟨⟨n1, rfl⟩⟩⟩
    have M6 := Aside0.mk (M5.out.draw n1)
    generalize w5.drewN n1 = w6 at M6 ⊢
    refine ⟨_, rfl, ?_⟩
    refine hK.out _ _ ⟨(M6.out.box (.tail _ (.tail _ (.head _))) 0).trans rfl, (M6.out.box (.tail _ (.tail _ (.head _))) 1).trans rfl, pw_cell_below M6.out.below F3.out, pw_cell_below M6.out.below F1.out, (M6.out.box (.tail _ (.head _)) 0).trans rfl, (M6.out.box (.tail _ (.head _)) 1).trans rfl⟩ (fun hHeld => ?_); clear hK K; refine kz (some 19) ?_
    refine pz 10 20 ?_; refine pz 11 21 ?_; refine pz 12 22 ?_; refine pz 13 23 ?_; refine pz 14 24 ?_; refine pz 16 26 ?_; refine tz 15 25 ?_; refine pz 17 27 ?_; refine pz 18 28 ?_; refine tz 19 29 ?_; refine pz 20 30 ?_; refine pz 21 31 ?_
    refine ez 22 (some 32) (fun K hK => ?_)
    refine gz Try.func53 #[.int .i64 at_, .int .i64 0, .int .i64 ((ff.code.length : Int) - 1)] ?_
    have C := spec_l01In.calls _ _ _ _ w6 (Img.spec_in at_ 0 ((ff.code.length : Int) - 1))
    rw [HA.out] at C
    refine C.mono ?_; clear C; rintro e w7 ⟨rfl, ⟨⟨n2, rfl⟩⟩⟩
    have M7 := Aside0.mk (M6.out.draw n2)
    generalize w6.drewN n2 = w7 at M7 ⊢
    refine ⟨_, rfl, ?_⟩
    refine hK.out _ _ ⟨(M7.out.box (.tail _ (.tail _ (.head _))) 0).trans rfl, (M7.out.box (.tail _ (.tail _ (.head _))) 1).trans rfl, pw_cell_below M7.out.below F3.out, pw_cell_below M7.out.below F1.out, (M7.out.box (.tail _ (.head _)) 0).trans rfl, (M7.out.box (.tail _ (.head _)) 1).trans rfl⟩ (fun hHeld => ?_); clear hK K; refine kz (some 32) ?_
    refine pz 23 33 ?_; refine pz 24 34 ?_; refine pz 25 35 ?_; refine pz 26 36 ?_; refine pz 29 39 ?_; refine pz 31 41 ?_; refine tz 27 37 ?_; refine pz 28 38 ?_; refine tz 30 40 ?_; refine pz 32 42 ?_; refine pz 33 43 ?_; refine tz 34 44 ?_; refine pz 35 45 ?_; refine pz 36 46 ?_; refine pz 37 47 ?_; refine oz 38 48 ?_; refine oz 39 49 ?_; refine oz 40 50 ?_; refine oz 41 51 ?_; refine oz 42 52 ?_; refine oz 43 53 ?_; refine oz 44 54 ?_; refine oz 45 55 ?_; refine oz 46 56 ?_; refine oz 47 57 ?_; refine oz 48 58 ?_; refine oz 49 59 ?_; refine oz 50 60 ?_; refine oz 51 61 ?_; refine pz 52 62 ?_
    refine dz ?_
    clear hHeld
    have HOK := Aside0.mk (show sfOk x (j : Int) at_ s = false from by unfold sfOk stepOk; rw [HFA.out, decide_eq_false HLE.out]; simp)
    have HS := Aside0.mk (sf_no HOK.out)
    have b0 := M7.out.box (.head _); have b1 := M7.out.free (.head _)
    have M8 := Aside0.mk (Mem.set (A := []) (Mem.set (A := []) M7.out 0 (.int .i64 0) rfl) 1 (.slice none 0 0) rfl)
    go_wp2
    refine bodyPost_ret (results_ct rfl _ _ (w.heap.size + 2) 31 #[.int .i64 0, .slice none 0 0] (0, 0) _ rfl (M8.out.blk (.head _)) hu2 rfl (by kernel_rfl)) rfl ?_
    refine ⟨_, congrArg Ending.returned (by rw [HOK.out]; rfl), ?_, M8.out.below⟩
    rw [HS.out]
    exact kStateI_mkM _ _ _ zState (Kd.R_nil _ _ _ _ _)
  have hne : ((s.regs.length : Int) != ff.regs) = false := by simpa using hlen2
  have HLE := Aside0.mk hlen2; clear hlen2
  have hfr := of_decide_eq_true (show decide (0 ≤ at_ ∧ at_ ≤ (ff.code.length : Int) - 1) = true from HA.out)
  obtain ⟨p, hpe⟩ : ∃ p : Nat, at_ = p := ⟨at_.toNat, by omega⟩
  subst hpe
  have hp : p < ff.code.length := by omega
  have hp0 : (0 : Int) ≤ (p : Int) := by omega
  have hp1 : (p : Int) < (ff.code.length : Int) := by omega
  obtain ⟨ka, hka, kK, k0, k1, k2⟩ := Ins_at HCD.out.2 p hp
  cases hka
  obtain ⟨i, hie⟩ : ∃ i, i = el zIns ff.code p := ⟨_, rfl⟩
  rw [← hie] at k0 k1 k2
  have HIE := Aside0.mk (show insAt x (j : Int) (p : Int) = i from by unfold insAt; rw [HFA.out]; exact hie.symm)
  have HIM := Aside0.mk (OK.out.code i (by rw [hie]; exact el_mem zIns hp))
  have I0 := Aside0.mk k0; have I1 := Aside0.mk k1; have I2 := Aside0.mk k2
  clear hie kK k0 k1 k2 hfr
  rcases Bool.eq_false_or_eq_true (mayB x ff i s) with hmb | hmb
  rotate_left
  · have HMB := Aside0.mk hmb; clear hmb
    refine sz 53 (fun W => W.cell? ⟨w.heap.size, 0, none⟩ = some (.slice (some fa0) x.funcs.length c0) ∧ W.cell? ⟨w.heap.size, 1, none⟩ = some (.slice A1 x.consts.length c1) ∧ W.cell? ⟨(fa0.add (j * 5)).block, (fa0.add (j * 5)).off + 3, none⟩ = some (.slice (some ka) ff.code.length c3) ∧ W.cell? ⟨(fa0.add (j * 5)).block, (fa0.add (j * 5)).off + 1, none⟩ = some (.int .i64 ff.regs) ∧ W.cell? ⟨w.heap.size + 1, 0, none⟩ = some (.int .i64 s.acc) ∧ W.cell? ⟨w.heap.size + 1, 1, none⟩ = some (.slice AR s.regs.length cR) ∧ W.cell? (ka.add (p * 3)) = some (.int .i64 i.op) ∧ W.cell? ⟨(ka.add (p * 3)).block, (ka.add (p * 3)).off + 1, none⟩ = some (.int .i64 i.a) ∧ W.cell? ⟨(ka.add (p * 3)).block, (ka.add (p * 3)).off + 2, none⟩ = some (.int .i64 i.b)) [] sfS.tab1 sfS.bits1 ⟨(M0.out.drew.box (.tail _ (.tail _ (.head _))) 0).trans rfl, (M0.out.drew.box (.tail _ (.tail _ (.head _))) 1).trans rfl, pw_cell_below M0.out.drew.below F3.out, pw_cell_below M0.out.drew.below F1.out, (M0.out.drew.box (.tail _ (.head _)) 0).trans rfl, (M0.out.drew.box (.tail _ (.head _)) 1).trans rfl, pw_cell_below M0.out.drew.below I0.out, pw_cell_below M0.out.drew.below I1.out, pw_cell_below M0.out.drew.below I2.out⟩ (fun HT_ HW_ hHeld => ?_)
    have MD := Aside0.mk M0.out.drew
    generalize wq.drew = wd at MD hHeld ⊢
    refine tz 0 10 ?_
    refine ez 1 (some 11) (fun K hK => ?_)
    refine gz Try.func52 #[.agg #[.slice (some fa0) x.funcs.length c0, .slice A1 x.consts.length c1]] ?_
    have C := cImageOkS x (some fa0) c0 A1 c1 _ L0.out (Kd.C_below G0.out MD.out.below) L1.out (Kd.C_below G1.out MD.out.below) HN.out
    rw [HI.out] at C
    refine C.mono ?_; clear C; rintro e w5 ⟨rfl, hb5⟩
    have M5 := Aside0.mk (MD.out.step hb5); clear hb5
    refine ⟨_, rfl, ?_⟩
    refine hK.out _ _ ⟨(M5.out.box (.tail _ (.tail _ (.head _))) 0).trans rfl, (M5.out.box (.tail _ (.tail _ (.head _))) 1).trans rfl, pw_cell_below M5.out.below F3.out, pw_cell_below M5.out.below F1.out, (M5.out.box (.tail _ (.head _)) 0).trans rfl, (M5.out.box (.tail _ (.head _)) 1).trans rfl, pw_cell_below M5.out.below I0.out, pw_cell_below M5.out.below I1.out, pw_cell_below M5.out.below I2.out⟩ (fun hHeld => ?_); clear hK K; refine kz (some 11) ?_
    refine pz 2 12 ?_; refine pz 3 13 ?_; refine pz 4 14 ?_; refine pz 5 15 ?_; refine tz 6 16 ?_; refine pz 7 17 ?_; refine pz 8 18 ?_
    refine ez 9 (some 19) (fun K hK => ?_)
    refine gz Try.func53 #[.int .i64 (j : Int), .int .i64 0, .int .i64 ((x.funcs.length : Int) - 1)] ?_
    have C := spec_l01In.calls _ _ _ _ w5 (Img.spec_in (j : Int) 0 ((x.funcs.length : Int) - 1))
    rw [HF.out] at C
    refine C.mono ?_; clear C; rintro e w6 ⟨rfl, ⟨⟨n1, rfl⟩⟩⟩
    have M6 := Aside0.mk (M5.out.draw n1)
    generalize w5.drewN n1 = w6 at M6 ⊢
    refine ⟨_, rfl, ?_⟩
    refine hK.out _ _ ⟨(M6.out.box (.tail _ (.tail _ (.head _))) 0).trans rfl, (M6.out.box (.tail _ (.tail _ (.head _))) 1).trans rfl, pw_cell_below M6.out.below F3.out, pw_cell_below M6.out.below F1.out, (M6.out.box (.tail _ (.head _)) 0).trans rfl, (M6.out.box (.tail _ (.head _)) 1).trans rfl, pw_cell_below M6.out.below I0.out, pw_cell_below M6.out.below I1.out, pw_cell_below M6.out.below I2.out⟩ (fun hHeld => ?_); clear hK K; refine kz (some 19) ?_
    refine pz 10 20 ?_; refine pz 11 21 ?_; refine pz 12 22 ?_; refine pz 13 23 ?_; refine pz 14 24 ?_; refine pz 16 26 ?_; refine tz 15 25 ?_; refine pz 17 27 ?_; refine pz 18 28 ?_; refine tz 19 29 ?_; refine pz 20 30 ?_; refine pz 21 31 ?_
    refine ez 22 (some 32) (fun K hK => ?_)
    refine gz Try.func53 #[.int .i64 (p : Int), .int .i64 0, .int .i64 ((ff.code.length : Int) - 1)] ?_
    have C := spec_l01In.calls _ _ _ _ w6 (Img.spec_in (p : Int) 0 ((ff.code.length : Int) - 1))
    rw [HA.out] at C
    refine C.mono ?_; clear C; rintro e w7 ⟨rfl, ⟨⟨n2, rfl⟩⟩⟩
    have M7 := Aside0.mk (M6.out.draw n2)
    generalize w6.drewN n2 = w7 at M7 ⊢
    refine ⟨_, rfl, ?_⟩
    refine hK.out _ _ ⟨(M7.out.box (.tail _ (.tail _ (.head _))) 0).trans rfl, (M7.out.box (.tail _ (.tail _ (.head _))) 1).trans rfl, pw_cell_below M7.out.below F3.out, pw_cell_below M7.out.below F1.out, (M7.out.box (.tail _ (.head _)) 0).trans rfl, (M7.out.box (.tail _ (.head _)) 1).trans rfl, pw_cell_below M7.out.below I0.out, pw_cell_below M7.out.below I1.out, pw_cell_below M7.out.below I2.out⟩ (fun hHeld => ?_); clear hK K; refine kz (some 32) ?_
    refine pz 23 33 ?_; refine pz 24 34 ?_; refine pz 25 35 ?_; refine pz 26 36 ?_; refine pz 29 39 ?_; refine pz 31 41 ?_; refine tz 27 37 ?_; refine pz 28 38 ?_; refine tz 30 40 ?_; refine pz 32 42 ?_; refine pz 33 43 ?_; refine tz 34 44 ?_; refine pz 35 45 ?_; refine pz 36 46 ?_; refine pz 37 47 ?_; refine pz 39 49 ?_; refine pz 40 50 ?_; refine pz 42 52 ?_; refine pz 46 56 ?_; refine tz 38 48 ?_; refine tz 41 51 ?_; refine pz 43 53 ?_; refine pz 44 54 ?_; refine tz 45 55 ?_; refine pz 47 57 ?_; refine tz 48 58 ?_; refine tz 49 59 ?_
    refine ez 50 (some 60) (fun K hK => ?_)
    refine gz Try.func54 #[.agg #[.slice (some fa0) x.funcs.length c0, .slice A1 x.consts.length c1], .int .i64 j, .agg #[.int .i64 i.op, .int .i64 i.a, .int .i64 i.b], .agg #[.int .i64 s.acc, .slice AR s.regs.length cR]] ?_
    obtain ⟨_, _, ce, hcs1, hcs2⟩ := kStateI_open (kStateI.K_below M7.out.below HK.out)
    injection ce with ce1 ce2; injection ce2 with ce3 _; injection ce3 with ce4 ce5 ce6; subst ce4; subst ce6; clear ce1 ce5
    have C := cMayS x j s i (some fa0) c0 A1 c1 AR cR w7 L0.out (Kd.C_below G0.out M7.out.below) hj hcs2 hcs1 hl (by have := OK.out.fl; omega) HIM.out.1 HIM.out.2.1 HIM.out.2.2 (by rw [← HFE.out]; have := OK.out.cl; omega)
    rw [← HFE.out, HMB.out] at C
    refine C.mono ?_; clear C hcs1 hcs2; rintro e w8 ⟨rfl, hb8⟩
    have M9 := Aside0.mk (M7.out.step hb8); clear hb8
    refine ⟨_, rfl, ?_⟩
    refine hK.out _ _ ⟨(M9.out.box (.tail _ (.tail _ (.head _))) 0).trans rfl, (M9.out.box (.tail _ (.tail _ (.head _))) 1).trans rfl, pw_cell_below M9.out.below F3.out, pw_cell_below M9.out.below F1.out, (M9.out.box (.tail _ (.head _)) 0).trans rfl, (M9.out.box (.tail _ (.head _)) 1).trans rfl, pw_cell_below M9.out.below I0.out, pw_cell_below M9.out.below I1.out, pw_cell_below M9.out.below I2.out⟩ (fun hHeld => ?_); clear hK K; refine kz (some 60) ?_
    refine pz 51 61 ?_; refine pz 52 62 ?_
    refine dz ?_
    clear hHeld
    have HOK := Aside0.mk (show sfOk x (j : Int) (p : Int) s = false from by unfold sfOk stepOk; rw [HFA.out, HIE.out, HMB.out]; simp)
    have HS := Aside0.mk (sf_no HOK.out)
    have b0 := M9.out.box (.head _); have b1 := M9.out.free (.head _)
    have M8 := Aside0.mk (Mem.set (A := []) (Mem.set (A := []) M9.out 0 (.int .i64 0) rfl) 1 (.slice none 0 0) rfl)
    go_wp2
    refine bodyPost_ret (results_ct rfl _ _ (w.heap.size + 2) 31 #[.int .i64 0, .slice none 0 0] (0, 0) _ rfl (M8.out.blk (.head _)) hu2 rfl (by kernel_rfl)) rfl ?_
    refine ⟨_, congrArg Ending.returned (by rw [HOK.out]; rfl), ?_, M8.out.below⟩
    rw [HS.out]
    exact kStateI_mkM _ _ _ zState (Kd.R_nil _ _ _ _ _)
  have HMB := Aside0.mk hmb; clear hmb
  refine sz 53 (fun W => W.cell? ⟨w.heap.size, 0, none⟩ = some (.slice (some fa0) x.funcs.length c0) ∧ W.cell? ⟨w.heap.size, 1, none⟩ = some (.slice A1 x.consts.length c1) ∧ W.cell? ⟨(fa0.add (j * 5)).block, (fa0.add (j * 5)).off + 3, none⟩ = some (.slice (some ka) ff.code.length c3) ∧ W.cell? ⟨(fa0.add (j * 5)).block, (fa0.add (j * 5)).off + 1, none⟩ = some (.int .i64 ff.regs) ∧ W.cell? ⟨w.heap.size + 1, 0, none⟩ = some (.int .i64 s.acc) ∧ W.cell? ⟨w.heap.size + 1, 1, none⟩ = some (.slice AR s.regs.length cR) ∧ W.cell? (ka.add (p * 3)) = some (.int .i64 i.op) ∧ W.cell? ⟨(ka.add (p * 3)).block, (ka.add (p * 3)).off + 1, none⟩ = some (.int .i64 i.a) ∧ W.cell? ⟨(ka.add (p * 3)).block, (ka.add (p * 3)).off + 2, none⟩ = some (.int .i64 i.b)) [] sfS.tab1 sfS.bits1 ⟨(M0.out.drew.box (.tail _ (.tail _ (.head _))) 0).trans rfl, (M0.out.drew.box (.tail _ (.tail _ (.head _))) 1).trans rfl, pw_cell_below M0.out.drew.below F3.out, pw_cell_below M0.out.drew.below F1.out, (M0.out.drew.box (.tail _ (.head _)) 0).trans rfl, (M0.out.drew.box (.tail _ (.head _)) 1).trans rfl, pw_cell_below M0.out.drew.below I0.out, pw_cell_below M0.out.drew.below I1.out, pw_cell_below M0.out.drew.below I2.out⟩ (fun HT_ HW_ hHeld => ?_)
  have MD := Aside0.mk M0.out.drew
  generalize wq.drew = wd at MD hHeld ⊢
  refine tz 0 10 ?_
  refine ez 1 (some 11) (fun K hK => ?_)
  refine gz Try.func52 #[.agg #[.slice (some fa0) x.funcs.length c0, .slice A1 x.consts.length c1]] ?_
  have C := cImageOkS x (some fa0) c0 A1 c1 _ L0.out (Kd.C_below G0.out MD.out.below) L1.out (Kd.C_below G1.out MD.out.below) HN.out
  rw [HI.out] at C
  refine C.mono ?_; clear C; rintro e w5 ⟨rfl, hb5⟩
  have M5 := Aside0.mk (MD.out.step hb5); clear hb5
  refine ⟨_, rfl, ?_⟩
  refine hK.out _ _ ⟨(M5.out.box (.tail _ (.tail _ (.head _))) 0).trans rfl, (M5.out.box (.tail _ (.tail _ (.head _))) 1).trans rfl, pw_cell_below M5.out.below F3.out, pw_cell_below M5.out.below F1.out, (M5.out.box (.tail _ (.head _)) 0).trans rfl, (M5.out.box (.tail _ (.head _)) 1).trans rfl, pw_cell_below M5.out.below I0.out, pw_cell_below M5.out.below I1.out, pw_cell_below M5.out.below I2.out⟩ (fun hHeld => ?_); clear hK K; refine kz (some 11) ?_
  refine pz 2 12 ?_; refine pz 3 13 ?_; refine pz 4 14 ?_; refine pz 5 15 ?_; refine tz 6 16 ?_; refine pz 7 17 ?_; refine pz 8 18 ?_
  refine ez 9 (some 19) (fun K hK => ?_)
  refine gz Try.func53 #[.int .i64 (j : Int), .int .i64 0, .int .i64 ((x.funcs.length : Int) - 1)] ?_
  have C := spec_l01In.calls _ _ _ _ w5 (Img.spec_in (j : Int) 0 ((x.funcs.length : Int) - 1))
  rw [HF.out] at C
  refine C.mono ?_; clear C; rintro e w6 ⟨rfl, ⟨⟨n1, rfl⟩⟩⟩
  have M6 := Aside0.mk (M5.out.draw n1)
  generalize w5.drewN n1 = w6 at M6 ⊢
  refine ⟨_, rfl, ?_⟩
  refine hK.out _ _ ⟨(M6.out.box (.tail _ (.tail _ (.head _))) 0).trans rfl, (M6.out.box (.tail _ (.tail _ (.head _))) 1).trans rfl, pw_cell_below M6.out.below F3.out, pw_cell_below M6.out.below F1.out, (M6.out.box (.tail _ (.head _)) 0).trans rfl, (M6.out.box (.tail _ (.head _)) 1).trans rfl, pw_cell_below M6.out.below I0.out, pw_cell_below M6.out.below I1.out, pw_cell_below M6.out.below I2.out⟩ (fun hHeld => ?_); clear hK K; refine kz (some 19) ?_
  refine pz 10 20 ?_; refine pz 11 21 ?_; refine pz 12 22 ?_; refine pz 13 23 ?_; refine pz 14 24 ?_; refine pz 16 26 ?_; refine tz 15 25 ?_; refine pz 17 27 ?_; refine pz 18 28 ?_; refine tz 19 29 ?_; refine pz 20 30 ?_; refine pz 21 31 ?_
  refine ez 22 (some 32) (fun K hK => ?_)
  refine gz Try.func53 #[.int .i64 (p : Int), .int .i64 0, .int .i64 ((ff.code.length : Int) - 1)] ?_
  have C := spec_l01In.calls _ _ _ _ w6 (Img.spec_in (p : Int) 0 ((ff.code.length : Int) - 1))
  rw [HA.out] at C
  refine C.mono ?_; clear C; rintro e w7 ⟨rfl, ⟨⟨n2, rfl⟩⟩⟩
  have M7 := Aside0.mk (M6.out.draw n2)
  generalize w6.drewN n2 = w7 at M7 ⊢
  refine ⟨_, rfl, ?_⟩
  refine hK.out _ _ ⟨(M7.out.box (.tail _ (.tail _ (.head _))) 0).trans rfl, (M7.out.box (.tail _ (.tail _ (.head _))) 1).trans rfl, pw_cell_below M7.out.below F3.out, pw_cell_below M7.out.below F1.out, (M7.out.box (.tail _ (.head _)) 0).trans rfl, (M7.out.box (.tail _ (.head _)) 1).trans rfl, pw_cell_below M7.out.below I0.out, pw_cell_below M7.out.below I1.out, pw_cell_below M7.out.below I2.out⟩ (fun hHeld => ?_); clear hK K; refine kz (some 32) ?_
  refine pz 23 33 ?_; refine pz 24 34 ?_; refine pz 25 35 ?_; refine pz 26 36 ?_; refine pz 29 39 ?_; refine pz 31 41 ?_; refine tz 27 37 ?_; refine pz 28 38 ?_; refine tz 30 40 ?_; refine pz 32 42 ?_; refine pz 33 43 ?_; refine tz 34 44 ?_; refine pz 35 45 ?_; refine pz 36 46 ?_; refine pz 37 47 ?_; refine pz 39 49 ?_; refine pz 40 50 ?_; refine pz 42 52 ?_; refine pz 46 56 ?_; refine tz 38 48 ?_; refine tz 41 51 ?_; refine pz 43 53 ?_; refine pz 44 54 ?_; refine tz 45 55 ?_; refine pz 47 57 ?_; refine tz 48 58 ?_; refine tz 49 59 ?_
  refine ez 50 (some 60) (fun K hK => ?_)
  refine gz Try.func54 #[.agg #[.slice (some fa0) x.funcs.length c0, .slice A1 x.consts.length c1], .int .i64 j, .agg #[.int .i64 i.op, .int .i64 i.a, .int .i64 i.b], .agg #[.int .i64 s.acc, .slice AR s.regs.length cR]] ?_
  obtain ⟨_, _, ce, hcs1, hcs2⟩ := kStateI_open (kStateI.K_below M7.out.below HK.out)
  injection ce with ce1 ce2; injection ce2 with ce3 _; injection ce3 with ce4 ce5 ce6; subst ce4; subst ce6; clear ce1 ce5
  have C := cMayS x j s i (some fa0) c0 A1 c1 AR cR w7 L0.out (Kd.C_below G0.out M7.out.below) hj hcs2 hcs1 hl (by have := OK.out.fl; omega) HIM.out.1 HIM.out.2.1 HIM.out.2.2 (by rw [← HFE.out]; have := OK.out.cl; omega)
  rw [← HFE.out, HMB.out] at C
  refine C.mono ?_; clear C hcs1 hcs2; rintro e w8 ⟨rfl, hb8⟩
  have M9 := Aside0.mk (M7.out.step hb8); clear hb8
  refine ⟨_, rfl, ?_⟩
  refine hK.out _ _ ⟨(M9.out.box (.tail _ (.tail _ (.head _))) 0).trans rfl, (M9.out.box (.tail _ (.tail _ (.head _))) 1).trans rfl, pw_cell_below M9.out.below F3.out, pw_cell_below M9.out.below F1.out, (M9.out.box (.tail _ (.head _)) 0).trans rfl, (M9.out.box (.tail _ (.head _)) 1).trans rfl, pw_cell_below M9.out.below I0.out, pw_cell_below M9.out.below I1.out, pw_cell_below M9.out.below I2.out⟩ (fun hHeld => ?_); clear hK K; refine kz (some 60) ?_
  refine pz 51 61 ?_; refine pz 52 62 ?_
  refine dz ?_
  clear hHeld
  have HOK := Aside0.mk (show sfOk x (j : Int) (p : Int) s = true from by unfold sfOk sfIn stepOk; rw [HI.out, HF.out, HFA.out, HA.out, HIE.out, HMB.out, decide_eq_true HLE.out]; rfl)
  have HRS0 := Aside0.mk (sf_yes HOK.out)
  go_upto_region 3 with fail
  clear MD M5 M6 M7
  have MX := M9; clear M9
  refine sz 13 (fun W => W.cell? ⟨w.heap.size + 1, 0, none⟩ = some (.int .i64 s.acc) ∧ W.cell? ⟨w.heap.size + 1, 1, none⟩ = some (.slice AR s.regs.length cR) ∧ W.cell? ⟨w.heap.size, 0, none⟩ = some (.slice (some fa0) x.funcs.length c0) ∧ W.cell? ⟨(fa0.add (j * 5)).block, (fa0.add (j * 5)).off + 3, none⟩ = some (.slice (some ka) ff.code.length c3) ∧ W.cell? (ka.add (p * 3)) = some (.int .i64 i.op) ∧ W.cell? ⟨(ka.add (p * 3)).block, (ka.add (p * 3)).off + 1, none⟩ = some (.int .i64 i.a) ∧ W.cell? ⟨(ka.add (p * 3)).block, (ka.add (p * 3)).off + 2, none⟩ = some (.int .i64 i.b)) [11] sfS.tab3 sfS.bits3 ⟨(MX.out.drew.box (.tail _ (.head _)) 0).trans rfl, (MX.out.drew.box (.tail _ (.head _)) 1).trans rfl, (MX.out.drew.box (.tail _ (.tail _ (.head _))) 0).trans rfl, pw_cell_below MX.out.drew.below F3.out, pw_cell_below MX.out.drew.below I0.out, pw_cell_below MX.out.drew.below I1.out, pw_cell_below MX.out.drew.below I2.out⟩ (fun HT_ HW_ hHeld => ?_)
  have ME := Aside0.mk MX.out.drew
  clear MX
  refine pz 0 64 ?_; refine pz 2 66 ?_; refine pz 6 70 ?_; refine tz 1 65 ?_; refine pz 3 67 ?_; refine pz 4 68 ?_; refine tz 5 69 ?_; refine pz 7 71 ?_; refine tz 8 72 ?_; refine tz 9 73 ?_
  refine ez 10 (some 74) (fun K hK => ?_)
  refine gz Try.func55 #[.agg #[.int .i64 i.op, .int .i64 i.a, .int .i64 i.b], .agg #[.int .i64 s.acc, .slice AR s.regs.length cR]] ?_
  have C := cAfter i s _ _ (kStateI.K_below ME.out.below HK.out) HIM.out.1 HIM.out.2.1.1 (fun h => may_room HMB.out h) hl
  refine C.mono ?_; clear C; rintro e w5 ⟨ds, rfl, hm, hb5⟩; obtain ⟨nx, hnx⟩ : ∃ nx, nx = afterS i s := ⟨_, rfl⟩
  rw [← hnx] at hm
  obtain ⟨v9, rfl, hr9⟩ := kStateI_openM hm; obtain ⟨X9, y9, rfl⟩ := Kd.R_slice hr9
  have M5 := Aside0.mk (ME.out.push hb5 hm); clear hm hb5 hr9
  have HNX := Aside0.mk hnx; clear hnx
  refine ⟨_, rfl, ?_⟩
  refine hK.out _ _ ⟨(M5.out.box (.tail _ (.tail _ (.head _))) 0).trans rfl, (M5.out.box (.tail _ (.tail _ (.head _))) 1).trans rfl, (M5.out.box (.tail _ (.tail _ (.tail _ (.head _)))) 0).trans rfl, pw_cell_below M5.out.below F3.out, pw_cell_below M5.out.below I0.out, pw_cell_below M5.out.below I1.out, pw_cell_below M5.out.below I2.out⟩ (fun hHeld => ?_); clear hK K; refine kz (some 74) ?_
  refine lz 11 none (fun K hK => ?_)
  have b0 := M5.out.box (.tail _ (.head _)); have b1 := M5.out.free (.tail _ (.head _))
  refine skip_ (w1 := ?_) (by rfl) rfl ?_ ?_
  rotate_left
  · go_simp
    rfl
  clear b0 b1
  refine hK.out _ _ ?_; clear hK K
  refine pz 12 9 ?_
  refine dz ?_
  have HRS := Aside0.mk (show sfRes x (j : Int) (p : Int) s = nx from by
    rw [HNX.out, HRS0.out, HIE.out])
  clear hHeld
  have M8 := Aside0.mk (Mem.set (A := [_]) (Mem.set (A := [_]) M5.out 0 (.int .i64 nx.acc) rfl) 1 (.slice X9 nx.regs.length y9) rfl)
  try go_wp2
  refine bodyPost_ret (results_ct rfl _ _ (w.heap.size + 2) 31 #[.int .i64 nx.acc, .slice X9 nx.regs.length y9] (0, 0) _ rfl (M8.out.blk (.tail _ (.head _))) hu2 rfl (by kernel_rfl)) rfl ?_
  refine ⟨_, congrArg Ending.returned (by rw [HOK.out]; rfl), ?_, M8.out.below⟩
  rw [HRS.out]
  have HV := M8.out.val (.head _)
  exact kStateI.M_mono (fun _ _ => trivial) (kStateI.M_lower (M8.out.fits _ (.head _)).1 HV)
end Go.Proofs.Ytcbaokflimdjnaa.Flow
end
