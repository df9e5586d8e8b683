/- Part 23 of the proof: general lemmas, contracts of functions, walks. No condition of its own. -/
import Derived.Deep.RegionWith
import Derived.Deep.RegionHeld3
import Derived.Deep.DeepCutAuto
import Derived.ProofKit
import Derived.OpenShut
import Derived.ChangeOld
import Derived.ChangeShapes
import Derived.WideShapes
import Derived.ChangeArms
import Derived.DataReads
import Derived.DataElems
import Derived.Test.YtcbaokflimdjnaaPr21
import Derived.Test.YtcbaokflimdjnaaPr22
import Derived.Test.YtcbaokflimdjnaaPr13
import Derived.Test.YtcbaokflimdjnaaPr1
section
namespace Go.Proofs.Ytcbaokflimdjnaa.LawFnExactPrune
open Go.RowKit Go.Proofs.YtcbaokflimdjnaaW.PrintWords Go.Proofs.YtcbaokflimdjnaaW.PrintLast Go.Proofs.Ytcbaokflimdjnaa.Steps Go.Proofs.YtcbaokflimdjnaaW.PrintMore Go.Proofs.Ytcbaokflimdjnaa.Law Go.Proofs.Ytcbaokflimdjnaa.Num Go.Proofs.Ytcbaokflimdjnaa Go.Proofs.Ytcbaokflimdjnaa.Flow
set_option linter.unusedVariables false
set_option linter.unusedSimpArgs false
set_option autoImplicit false
def law.T10 : Bool × List (List Nat × List Nat) := (true, [([], []), ([], []), ([1], [1]), ([0, 2, 2], [0, 2]), ([3], [3])])
def law.B10 : List Nat := [0, 0, 2, 7, 15]
theorem law.tab10 : rtab .any (opsOf Try.f8 10) = law.T10 := by kernel_rfl
theorem law.bits10 : waitsOk law.T10.2 law.B10 = true := by kernel_rfl
theorem pruneI_len {x : Image} (h : LenImage x) : LenImage (pruneI x) := by
  unfold pruneI
  split
  · refine ⟨by rw [pFuncsTo_len]; exact h.1, ?_, h.2.2⟩
    have key : ∀ n, n ≤ x.funcs.length → ∀ y ∈ pFuncsTo x n, LenFunc y := by
      intro n
      induction n with
      | zero => exact fun _ y hy => absurd hy List.not_mem_nil
      | succ n ih =>
        intro hn y hy
        rcases List.mem_append.1 (show y ∈ pFuncsTo x n ++ [_] from hy) with hy | hy
        · exact ih (by omega) y hy
        · obtain rfl := List.mem_singleton.1 hy
          have h2 := h.2.1 _ (el_mem zFunc (show n < x.funcs.length by omega))
          exact ⟨h2.1, Nat.le_trans (pCodeTo_len _ _ _) h2.2.1, Nat.le_trans (pHandsTo_len _ _ _) h2.2.2⟩
    exact key _ (Nat.le_refl _)
  · exact ⟨Nat.zero_le _, fun y hy => absurd hy List.not_mem_nil, Nat.zero_le _⟩
theorem cnt_big {l : List Func} (h : ∀ y ∈ l, LenFunc y) : cntFuncs l ≤ l.length * 8388610 := by
  unfold cntFuncs
  induction l with
  | nil => simp
  | cons a l ih =>
    rw [List.map_cons, List.sum_cons, List.length_cons]
    have h1 := ih (fun y hy => h y (List.mem_cons_of_mem _ hy))
    have h2 := h a List.mem_cons_self
    unfold LenFunc at h2
    have h3 : cntFunc a ≤ 8388610 := by unfold cntFunc; omega
    omega
set_option maxHeartbeats 8000000 in
set_option maxRecDepth 100000 in
theorem w1 (x : Image) (A0 A1 : Option Addr) (c0 c1 : Nat) (w : World) (hx : kImageL.K w x [.slice A0 x.funcs.length c0, .slice A1 x.consts.length c1]) (gx : GoodImage x) (e1 : sub 1048576 (sizeImage x) = -1) :
    Calls Try.prog 8 #[.agg #[.slice A0 x.funcs.length c0, .slice A1 x.consts.length c1]] w fun e w' => e = .returned (.bool true) ∧ Below w.heap.size w w' := by
  have hu := Try.underlying25; have hu2 := Try.underlying37
  have HX := Aside0.mk hx; clear hx
  have M0 := Aside0.mk ((Mem.start w).allocAt rfl #[.slice A0 x.funcs.length c0, .slice A1 x.consts.length c1] 25)
  have z0 := M0.out.box (.head _)
  go_enter Try.func8, Try.ntmps8
  go_wp2_with fail
  have C := szImage x _ 1048576 _ (M0.out.old HX.out) gx (by omega) (by omega)
  rw [e1] at C
  refine C.mono ?_; clear C
  rintro e w1 ⟨rfl, hb⟩
  have M1 := Aside0.mk (M0.out.step hb); clear M0 hb z0; have z0 := M1.out.box (.head _)
  go_wp2
  go_ret
  exact ⟨rfl, M1.out.below⟩
set_option maxHeartbeats 8000000 in
set_option maxRecDepth 100000 in
theorem w2 (x : Image) (A0 A1 : Option Addr) (c0 c1 : Nat) (w : World) (hx : kImageL.K w x [.slice A0 x.funcs.length c0, .slice A1 x.consts.length c1]) (gx : GoodImage x) (s1 : Int) (e1 : sub 1048576 (sizeImage x) = s1) (n1 : 0 ≤ s1) (n2 : s1 ≤ 1048576) (hlx : LenImage x) (hn : ∀ y ∈ x.consts, 0 ≤ y.num ∧ y.num < 18446744073709551616) :
    Calls Try.prog 8 #[.agg #[.slice A0 x.funcs.length c0, .slice A1 x.consts.length c1]] w fun e w' => e = .returned (.bool true) ∧ Below w.heap.size w w' := by
  have hu := Try.underlying25; have hu2 := Try.underlying37
  have HX := Aside0.mk hx; clear hx
  have M0 := Aside0.mk ((Mem.start w).allocAt rfl #[.slice A0 x.funcs.length c0, .slice A1 x.consts.length c1] 25)
  have z0 := M0.out.box (.head _)
  go_enter Try.func8, Try.ntmps8
  go_wp2_with fail
  have C := szImage x _ 1048576 _ (M0.out.old HX.out) gx (by omega) (by omega)
  rw [e1] at C
  refine C.mono ?_; clear C
  rintro e w1 ⟨rfl, hb⟩
  have M1 := Aside0.mk (M0.out.step hb); clear M0 hb z0; have z0 := M1.out.box (.head _)
  have m1 : decide (s1 < 0) = false := by simp; omega
  obtain ⟨r, hr⟩ : ∃ r, r = pruneI x := ⟨_, rfl⟩
  obtain ⟨b, hbq⟩ : ∃ b, b = pruneB x := ⟨_, rfl⟩
  have hlr : LenImage r := by rw [hr]; exact pruneI_len hlx
  have hbb : (b != b) = false := by simp
  have HLX := Aside0.mk hlx; have HLR := Aside0.mk hlr; have HN := Aside0.mk hn; have HR := Aside0.mk hr; have HBQ := Aside0.mk hbq
  clear hlx hlr hn hr hbq
  go_wp2_with fail
  clear z0
  refine (toImageA x _ _ (M1.out.old HX.out) HLX.out).mono ?_; rintro e w21 ⟨ds, rfl, hm, hb⟩; obtain ⟨qw, dw, pw, ew, rfl, _, _, _, _⟩ := kImageI_open (kImageA_K _ x _ ▸ kImageA.K_of_M hm)
  have M21 := Aside0.mk (M1.out.push hb hm); clear hm hb M1
  go_wp2_with fail
  obtain ⟨q', d', p', e', h, i0, j0, i1, j1⟩ := kImageI_open (kImageA_K _ x _ ▸ M21.out.read (.head _))
  cases h
  have C := cPruneS x qw dw pw ew _ i0 j0 i1 j1 HN.out
  rw [← HR.out, ← HBQ.out] at C
  refine C.mono ?_; clear C i0 j0 i1 j1; rintro e w22 ⟨ds, rfl, hm, hb⟩; obtain ⟨qW, dW, pW, eW, rfl, _, _, _, _⟩ := kImageI_open (kImageA_K _ r _ ▸ kImageA.K_of_M hm)
  have M22 := Aside0.mk ((M21.out.push hb hm).allocAt rfl #[.slice qW r.funcs.length dW, .slice pW r.consts.length eW] 37); clear hm hb M21
  have z_bI := M22.out.box (.tail _ (.tail _ (.tail _ (.head _))))
  go_wp2_with fail
  clear z_bI
  refine (toImageA x _ _ (M22.out.old HX.out) HLX.out).mono ?_; rintro e w23 ⟨ds, rfl, hm, hb⟩; obtain ⟨qx, dx, px, ex, rfl, _, _, _, _⟩ := kImageI_open (kImageA_K _ x _ ▸ kImageA.K_of_M hm)
  have M23 := Aside0.mk (M22.out.push hb hm); clear hm hb M22
  have N23 := Aside0.mk (M23.out.allocAt rfl #[.slice qx x.funcs.length dx, .slice px x.consts.length ex] 37); clear M23
  have z_bx := N23.out.box (.head _)
  go_wp2_with fail
  clear z_bx
  obtain ⟨q', d', p', e', h, i0, j0, i1, j1⟩ := kImageI_open (kImageA_K _ x _ ▸ N23.out.read (.tail _ (.head _)))
  cases h
  have C := cPruneI x qx dx px ex _ i0 j0 i1 j1 HN.out
  rw [← HR.out, ← HBQ.out] at C
  refine C.mono ?_; clear C i0 j0 i1 j1; rintro e w24 ⟨ds, rfl, hm, hb⟩; obtain ⟨qg, dg, pg, eg, rfl, _, _, _, _⟩ := kImageI_open (kImageA_K _ r _ ▸ kImageA.K_of_M hm)
  have M24 := Aside0.mk ((N23.out.push hb hm).allocAt rfl #[.slice qg r.funcs.length dg, .slice pg r.consts.length eg] 37); clear hm hb N23
  have z_bg := M24.out.box (.head _)
  have z_bW := M24.out.box (.tail _ (.tail _ (.tail _ (.tail _ (.head _)))))
  go_wp2_with fail
  clear z_bg z_bW
  have C := eqImage r r _ _ _ (kImageA_K _ r _ ▸ M24.out.read (.tail _ (.head _))) (kImageA_K _ r _ ▸ M24.out.read (.tail _ (.tail _ (.tail _ (.tail _ (.tail _ (.head _)))))))
  rw [decide_eq_true rfl] at C
  refine C.mono ?_; clear C; rintro e w25 ⟨rfl, hb⟩
  have M25 := Aside0.mk (M24.out.step hb); clear hb M24
  have z_bx := M25.out.box (.tail _ (.tail _ (.head _)))
  have z_bI := M25.out.box (.tail _ (.tail _ (.tail _ (.tail _ (.tail _ (.tail _ (.tail _ (.head _))))))))
  go_upto_region 10 with fail
  clear z_bx z_bI
  have RX := Aside0.mk (M25.out.read (.tail _ (.tail _ (.tail _ (.head _)))))
  obtain ⟨L, HL, ML⟩ := Mem.hide M25
  have Ebx := Aside0.mk (show (Hold.box w23.heap.size #[.slice qx x.funcs.length dx, .slice px x.consts.length ex] 37) ∈ L from HL.out ▸ (.tail _ (.tail _ (.head _)))); have EbI := Aside0.mk (show (Hold.box w.heap.size #[.slice A0 x.funcs.length c0, .slice A1 x.consts.length c1] 25) ∈ L from HL.out ▸ (.tail _ (.tail _ (.tail _ (.tail _ (.tail _ (.tail _ (.tail _ (.head _)))))))))
  clear M25
  refine sz 5 (fun W => W.cell? ⟨w23.heap.size, 0, none⟩ = some (.slice qx x.funcs.length dx) ∧ W.cell? ⟨w23.heap.size, 1, none⟩ = some (.slice px x.consts.length ex) ∧ W.cell? ⟨w.heap.size, 0, none⟩ = some (.slice A0 x.funcs.length c0) ∧ W.cell? ⟨w.heap.size, 1, none⟩ = some (.slice A1 x.consts.length c1)) [] law.tab10 law.bits10 ⟨(((ML.out.drew)).box Ebx.out 0).trans rfl, (((ML.out.drew)).box Ebx.out 1).trans rfl, (((ML.out.drew)).box EbI.out 0).trans rfl, (((ML.out.drew)).box EbI.out 1).trans rfl⟩ (fun HT_ HW_ hHeld => ?_)
  have MD := Aside0.mk ML.out.drew
  refine tz 0 41 ?_; refine tz 1 42 ?_
  refine ez 2 (some 43) (fun K hK => ?_)
  refine gz Try.func15 #[.agg #[.slice A0 x.funcs.length c0, .slice A1 x.consts.length c1]] ?_
  have C := toImageA x _ _ (MD.out.old HX.out) HLX.out
  refine C.mono ?_; clear C; rintro e w26 ⟨ds, rfl, hm, hb⟩
  obtain ⟨q2, d2, q3, d3, rfl, _, _, _, _⟩ := kImageI_open (kImageA_K _ x _ ▸ kImageA.K_of_M hm)
  have N26 := Aside0.mk (MD.out.push hb hm); have RX2 := Aside0.mk (kImageA.K_below (below_step (below_drew1 (Below.refl _ _)) hb) RX.out); clear hm hb
  refine ⟨_, rfl, ?_⟩
  refine hK.out _ _ ⟨(((N26.out).drop).box Ebx.out 0).trans rfl, (((N26.out).drop).box Ebx.out 1).trans rfl, (((N26.out).drop).box EbI.out 0).trans rfl, (((N26.out).drop).box EbI.out 1).trans rfl⟩ (fun hHeld => ?_); clear hK K; refine kz (some 43) ?_
  refine ez 3 (some 44) (fun K hK => ?_)
  refine gz Try.func19 #[.agg #[.slice qx x.funcs.length dx, .slice px x.consts.length ex], .agg #[.slice q2 x.funcs.length d2, .slice q3 x.consts.length d3]] ?_
  have C := eqImage x x _ _ _ (kImageA_K _ x _ ▸ RX2.out) (kImageA_K _ x _ ▸ N26.out.read (.head _)); rw [decide_eq_true rfl] at C; refine C.mono ?_; clear C; rintro e w27 ⟨rfl, hb⟩; have M27 := Aside0.mk ((N26.out.step hb).drop); clear hb
  refine ⟨_, rfl, ?_⟩
  refine hK.out _ _ ⟨(((M27.out)).box Ebx.out 0).trans rfl, (((M27.out)).box Ebx.out 1).trans rfl, (((M27.out)).box EbI.out 0).trans rfl, (((M27.out)).box EbI.out 1).trans rfl⟩ (fun hHeld => ?_); clear hK K; refine kz (some 44) ?_
  refine pz 4 45 ?_
  refine dz ?_
  clear hHeld ML RX RX2 N26 MD HT_ HW_
  have hl := HL.out; subst hl; clear HL Ebx EbI
  obtain ⟨k1, hk1⟩ : ∃ k1 : Int, k1 = 1 + (cntFuncs x.funcs : Int) + 3 * (x.consts.length : Int) := ⟨_, rfl⟩
  have hkb : 0 ≤ k1 ∧ k1 ≤ 17592186044416 := by
    have h1 := cnt_big HLX.out.2.1; have h2 := HLX.out.1; have h3 := HLX.out.2.2
    have h4 : x.funcs.length * 8388610 ≤ 1048576 * 8388610 := Nat.mul_le_mul_right _ h2
    omega
  have HK1 := Aside0.mk hk1; clear hk1
  have z_bx := M27.out.box (.tail _ (.tail _ (.head _)))
  go_wp2_with fail
  clear z_bx
  have hv := M27.out.val (.tail _ (.tail _ (.tail _ (.head _)))); have hf := M27.out.fits _ (.tail _ (.tail _ (.tail _ (.head _))))
  have C := markImage x _ 1 w _ _ _ M27.out.below hf.1 (fun b hb => Nat.lt_of_lt_of_le hb.2 hf.2) hv (by omega) (by have := HK1.out; omega) HLX.out.1; clear hv hf
  rw [← HK1.out] at C
  refine C.mono ?_; clear C; rintro e w28 ⟨rfl, hv, hb, hk⟩
  have M28 := Aside0.mk (Mem.mark (A := [_, _, _]) M27.out hb hk hv); clear hv hb hk M27
  have gk : decide (k1 < 0) = false := by simp; omega
  have z_bg := M28.out.box (.head _)
  have z_bW := M28.out.box (.tail _ (.tail _ (.tail _ (.tail _ (.head _)))))
  go_wp2_with fail
  clear z_bg z_bW
  have C := eqImage r r _ _ _ (kImageA_K _ r _ ▸ M28.out.read (.tail _ (.head _))) (kImageA_K _ r _ ▸ M28.out.read (.tail _ (.tail _ (.tail _ (.tail _ (.tail _ (.head _)))))))
  rw [decide_eq_true rfl] at C
  refine C.mono ?_; clear C; rintro e w29 ⟨rfl, hb⟩
  have M29 := Aside0.mk (M28.out.step hb); clear hb M28
  clear gk
  obtain ⟨k2, hk2⟩ : ∃ k2 : Int, k2 = 1 + (cntFuncs r.funcs : Int) + 3 * (r.consts.length : Int) := ⟨_, rfl⟩
  have hkc : 0 ≤ k2 ∧ k2 ≤ 17592186044416 := by
    have h1 := cnt_big HLR.out.2.1; have h2 := HLR.out.1; have h3 := HLR.out.2.2
    have h4 : r.funcs.length * 8388610 ≤ 1048576 * 8388610 := Nat.mul_le_mul_right _ h2
    omega
  have HK2 := Aside0.mk hk2; clear hk2
  have z_bg := M29.out.box (.head _)
  go_wp2_with fail
  clear z_bg
  have hv := M29.out.val (.tail _ (.head _)); have hf := M29.out.fits _ (.tail _ (.head _))
  have C := markImage r _ 1 w _ _ _ M29.out.below hf.1 (fun b hb => Nat.lt_of_lt_of_le hb.2 hf.2) hv (by omega) (by have := HK2.out; omega) HLR.out.1; clear hv hf
  rw [← HK2.out] at C
  refine C.mono ?_; clear C; rintro e w30 ⟨rfl, hv, hb, hk⟩
  have M30 := Aside0.mk (Mem.mark (A := [_]) M29.out hb hk hv); clear hv hb hk M29
  have z_bg := M30.out.box (.head _)
  go_wp2_with fail
  clear z_bg
  have C := heldImage r _ _ _ (kImageA_K _ _ _ ▸ M30.out.read (.tail _ (.head _))) rfl (by have := HK2.out; omega) HLR.out.1
  rw [← HK2.out] at C
  refine C.mono ?_; clear C; rintro e w31 ⟨rfl, hb⟩
  have M31 := Aside0.mk (M30.out.step hb); clear hb M30
  have gq : decide (k2 < 0) = false := by simp; omega
  have gn : (k2 != k2) = false := by simp
  have z_bI := M31.out.box (.tail _ (.tail _ (.tail _ (.tail _ (.tail _ (.tail _ (.tail _ (.head _))))))))
  go_wp2_with fail
  clear z_bI
  refine (toImageA x _ _ (M31.out.old HX.out) HLX.out).mono ?_; rintro e w32 ⟨ds, rfl, hm, hb⟩; obtain ⟨qh, dh, ph, eh, rfl, _, _, _, _⟩ := kImageI_open (kImageA_K _ x _ ▸ kImageA.K_of_M hm)
  have M32 := Aside0.mk (M31.out.push hb hm); clear hm hb M31
  go_wp2_with fail
  obtain ⟨q', d', p', e', h, i0, j0, i1, j1⟩ := kImageI_open (kImageA_K _ x _ ▸ M32.out.read (.head _))
  cases h
  have C := cPruneI x qh dh ph eh _ i0 j0 i1 j1 HN.out
  rw [← HR.out, ← HBQ.out] at C
  refine C.mono ?_; clear C i0 j0 i1 j1; rintro e w33 ⟨ds, rfl, hm, hb⟩; obtain ⟨qH, dH, pH, eH, rfl, _, _, _, _⟩ := kImageI_open (kImageA_K _ r _ ▸ kImageA.K_of_M hm)
  have M33 := Aside0.mk ((M32.out.push hb hm).allocAt rfl #[.slice qH r.funcs.length dH, .slice pH r.consts.length eH] 37); clear hm hb M32
  have z_bH := M33.out.box (.head _)
  have z_bW := M33.out.box (.tail _ (.tail _ (.tail _ (.tail _ (.tail _ (.tail _ (.tail _ (.head _))))))))
  go_wp2_with fail
  clear z_bH z_bW
  have C := eqImage r r _ _ _ (kImageA_K _ r _ ▸ M33.out.read (.tail _ (.head _))) (kImageA_K _ r _ ▸ M33.out.read (.tail _ (.tail _ (.tail _ (.tail _ (.tail _ (.tail _ (.tail _ (.tail _ (.head _))))))))))
  rw [decide_eq_true rfl] at C
  refine C.mono ?_; clear C; rintro e w34 ⟨rfl, hb⟩
  have M34 := Aside0.mk (M33.out.step hb); clear hb M33
  have z_bg := M34.out.box (.tail _ (.tail _ (.tail _ (.head _))))
  go_wp2_with fail
  clear z_bg
  have C := heldImage r _ _ _ (kImageA_K _ _ _ ▸ M34.out.read (.tail _ (.tail _ (.tail _ (.tail _ (.head _)))))) rfl (by have := HK2.out; omega) HLR.out.1
  rw [← HK2.out] at C
  refine C.mono ?_; clear C; rintro e w35 ⟨rfl, hb⟩
  have M35 := Aside0.mk (M34.out.step hb); clear hb M34
  go_wp2
  go_ret
  exact ⟨rfl, M35.out.below⟩
theorem le_sum {l : List Func} {y : Func} (h : y ∈ l) : sizeFunc y ≤ (l.map sizeFunc).sum := by
  induction l with
  | nil => cases h
  | cons a l ih =>
    rw [List.map_cons, List.sum_cons]
    rcases List.mem_cons.1 h with rfl | h
    · omega
    · have := ih h
      omega
theorem len_ok {x : Image} (h : (sizeImage x : Int) ≤ 1048576) : LenImage x := by
  have e : sizeImage x = x.funcs.length + (x.funcs.map sizeFunc).sum + (x.consts.length + (x.consts.map sizeConst).sum) := rfl
  refine ⟨by omega, fun y hy => ?_, by omega⟩
  have h1 := le_sum hy
  have e2 : sizeFunc y = y.caps.length + y.code.length + y.handlers.length := rfl
  exact ⟨by omega, by omega, by omega⟩
theorem law {GF : Func → Prop} (A0_0 : Option Addr) (c0_0 : Nat) (l0_0 : List Func) (A0_1 : Option Addr) (c0_1 : Nat) (l0_1 : List Const) (w : World)
    (hr0_0 : kFuncL.C w A0_0 l0_0.length l0_0) (hc0_0 : l0_0.length ≤ c0_0) (hr0_1 : kConst.C w A0_1 l0_1.length l0_1) (hc0_1 : l0_1.length ≤ c0_1)
    (g0 : (l0_0.length ≤ maxLen ∧ ∀ x ∈ l0_0, GF x) ∧ (l0_1.length ≤ maxLen ∧ ∀ x ∈ l0_1, (Lit.int .i64 x.kind).wf = true ∧ (Lit.int .u64 x.num).wf = true ∧ x.text.size ≤ maxLen)) :
    Calls Try.prog 8 #[.agg #[.slice A0_0 l0_0.length c0_0, .slice A0_1 l0_1.length c0_1]] w fun e w' => e = .returned (.bool true) ∧ Below w.heap.size w w' := by
  have hx := kImageL_mk w ⟨l0_0, l0_1⟩ hc0_0 hr0_0 hc0_1 hr0_1
  have gx : GoodImage ⟨l0_0, l0_1⟩ := ⟨fun _ _ => trivial, fun y hy => (g0.2.2 y hy).2.2⟩
  by_cases n1 : (1048576 : Int) < (sizeImage ⟨l0_0, l0_1⟩ : Int)
  · exact w1 ⟨l0_0, l0_1⟩ _ _ _ _ w hx gx (by unfold sub; rw [if_pos n1])
  · have e1 : sub 1048576 (sizeImage ⟨l0_0, l0_1⟩) = 1048576 - (sizeImage ⟨l0_0, l0_1⟩ : Int) := by unfold sub; rw [if_neg n1]
    exact w2 ⟨l0_0, l0_1⟩ _ _ _ _ w hx gx _ e1 (by omega) (by omega) (len_ok (by omega)) (fun y hy => by have h := (g0.2.2 y hy).2.1; exact wf_u64 h)
end Go.Proofs.Ytcbaokflimdjnaa.LawFnExactPrune
end
section
namespace Go.Proofs.Ytcbaokflimdjnaa.Open
open Go.Proofs.YtcbaokflimdjnaaW.PrintWords Go.ChangeShapes Go.WideShapes
section
variable {H : Type} {enc : TypeId × Value → H} {P : Program} {w : World} {base : Nat} {spare : Nat → Bool} {held : Bool}
/-- What reads as a datum at type t reads by the kind d as a value that is G. -/
def Opens {α : Type} (enc : TypeId × Value → H) (P : Program) (w : World) (base : Nat) (spare : Nat → Bool) (held : Bool) (t : TypeId) (d : Kd α) (G : α → Prop) : Prop :=
  ∀ (fuel : Nat) (cs : List Value) (x : DataW H × List MemPlace), DataW.trod enc P w base spare held fuel t cs = some x → ∃ a, d.K w a cs ∧ G a
theorem opens_int {t : TypeId} {k : IntKind} (ht : P.underlying t = some (.int k)) : Opens enc P w base spare held t (Kd.int k) (fun n => (Lit.int k n).wf = true) := by
  intro fuel cs x h
  obtain ⟨n, rfl, _, hw⟩ := DataW.trod_int ht h
  exact ⟨n, rfl, hw⟩
theorem opens_bool {t : TypeId} (ht : P.underlying t = some .bool) : Opens enc P w base spare held t Kd.bool (fun _ => True) := by
  intro fuel cs x h
  obtain ⟨b, rfl, _⟩ := DataW.trod_bool ht h
  exact ⟨b, rfl, trivial⟩
theorem opens_string {t : TypeId} (ht : P.underlying t = some .string) : Opens enc P w base spare held t Kd.string (fun s => s.size ≤ maxLen) := by
  intro fuel cs x h
  obtain ⟨s, rfl, _, hw⟩ := DataW.trod_string ht h
  exact ⟨s, rfl, hw⟩
theorem list_choose {α : Type} {Q : Nat → α → Prop} : ∀ (n : Nat), (∀ i, i < n → ∃ a, Q i a) → ∃ l : List α, l.length = n ∧ ∀ i a, l[i]? = some a → Q i a
  | 0, _ => ⟨[], rfl, fun i a h => by simp at h⟩
  | n + 1, h => by
    obtain ⟨l, hl, hq⟩ := list_choose n (fun i hi => h i (by omega))
    obtain ⟨a, ha⟩ := h n (by omega)
    refine ⟨l ++ [a], by simp [hl], fun i b hb => ?_⟩
    rw [List.getElem?_append] at hb
    split at hb
    · exact hq i b hb
    · rename_i hi
      have hi0 : i - l.length = 0 := by
        rcases Nat.eq_zero_or_pos (i - l.length) with h0 | h0
        · exact h0
        · rw [List.getElem?_eq_none (by simp; omega)] at hb
          cases hb
      rw [hi0] at hb
      simp at hb
      subst hb
      have : i = n := by omega
      rw [this]
      exact ha
theorem opens_slice {α : Type} {t e e' : TypeId} {d : Kd α} {G : α → Prop} (ht : P.underlying t = some (.slice e)) (hc : P.cellsOf e = d.sz) (ho : Opens enc P w base spare held e d G) :
    Opens enc P w base spare held t (Kd.slice e' d) (fun xs => xs.length ≤ maxLen ∧ ∀ x ∈ xs, G x) := by
  intro fuel cs x h
  rcases DataW.trod_slice ht h with ⟨rfl, _⟩ | ⟨a, len, cap, elems, rest, n, _, rfl, _, _, hl, hm, hlen, hel, _⟩
  · exact ⟨[], ⟨none, 0, rfl, Nat.le_refl _, rfl, by simp, fun h => by simp at h⟩, by simp, fun x hx => by simp at hx⟩
  · have each : ∀ i, i < len → ∃ z : α, (∃ c, c.length = d.sz ∧ d.K w z c ∧ ∀ j u, c[j]? = some u → w.cell? (a.add (i * d.sz + j)) = some u) ∧ G z := by
      intro i hi
      have he := hel i hi
      rw [List.getElem?_eq_getElem (by omega), Option.bind_eq_some_iff] at he
      obtain ⟨c, hcs, hy⟩ := he
      obtain ⟨z, hk, hg⟩ := ho _ _ _ hy
      refine ⟨z, ⟨c, d.K_len hk, hk, fun j u hu => ?_⟩, hg⟩
      obtain ⟨_, hcl, hcell⟩ := World.cells?_some hcs
      have hj : j < c.length := (List.getElem?_eq_some_iff.1 hu).1
      have := hcell j (by omega)
      rw [hc, Addr.add_add] at this
      rw [this, hu]
    obtain ⟨l, hll, hq⟩ := list_choose len each
    refine ⟨l, ⟨some a, cap, by rw [hll], by omega, rfl, by unfold maxLen at hm; omega, fun _ => ⟨a, rfl, fun j p hp => ?_⟩⟩, by omega, fun z hz => ?_⟩
    · obtain ⟨⟨c, h1, h2, h3⟩, _⟩ := hq j p hp
      exact ⟨c, h1, h2, h3⟩
    · obtain ⟨i, hi⟩ := List.getElem?_of_mem hz
      exact (hq i z hi).2
/-- The fields from a place on, read in line by the kind d. -/
def Fields {α : Type} (enc : TypeId × Value → H) (P : Program) (w : World) (base : Nat) (spare : Nat → Bool) (held : Bool) (fs : List Field) (off : Nat) (d : Kd α) (G : α → Prop) : Prop :=
  ∀ (n : Nat) (cs : List Value), cs.length = off + d.sz → (∀ f ∈ fs, ∃ x, DataW.trod enc P w base spare held n f.type ((cs.drop f.offset).take (P.cellsOf f.type)) = some x) → ∃ a, d.K w a (cs.drop off) ∧ G a
theorem fields_one {α : Type} {f : Field} {off : Nat} {d : Kd α} {G : α → Prop} (hf : f.offset = off) (hc : P.cellsOf f.type = d.sz) (ho : Opens enc P w base spare held f.type d G) : Fields enc P w base spare held [f] off d G := by
  intro n cs hl h
  obtain ⟨x, hx⟩ := h f (by simp)
  obtain ⟨a, hk, hg⟩ := ho _ _ _ hx
  refine ⟨a, ?_, hg⟩
  rw [hf, hc, List.take_of_length_le (by simp [hl])] at hk
  exact hk
theorem fields_cons {α β : Type} {f : Field} {fs : List Field} {off : Nat} {d : Kd α} {d' : Kd β} {G : α → Prop} {G' : β → Prop} (hf : f.offset = off) (hc : P.cellsOf f.type = d.sz) (ho : Opens enc P w base spare held f.type d G)
    (hr : Fields enc P w base spare held fs (off + d.sz) d' G') : Fields enc P w base spare held (f :: fs) off (Kd.pair d d') (fun x => G x.1 ∧ G' x.2) := by
  intro n cs hl h
  obtain ⟨x, hx⟩ := h f (by simp)
  obtain ⟨a, hk, hg⟩ := ho _ _ _ hx
  rw [hf, hc] at hk
  have hl' : cs.length = off + d.sz + d'.sz := by rw [hl]; show off + (d.sz + d'.sz) = _; omega
  obtain ⟨b, hk', hg'⟩ := hr n cs hl' (fun g hg => h g (by simp [hg]))
  refine ⟨(a, b), ⟨_, _, ?_, hk, hk'⟩, hg, hg'⟩
  rw [← List.drop_drop, List.take_append_drop]
theorem opens_struct {α : Type} {t : TypeId} {fs : Array Field} {d : Kd α} {G : α → Prop} (ht : P.underlying t = some (.struct fs)) (hc : P.cellsOf t = d.sz) (hf : Fields enc P w base spare held fs.toList 0 d G) : Opens enc P w base spare held t d G := by
  intro fuel cs x h
  obtain ⟨xs, n, _, _, hl, hlen, hx⟩ := DataW.trod_struct ht h
  obtain ⟨a, hk, hg⟩ := hf n cs (by omega) (fun f hm => by
    obtain ⟨i, hi⟩ := List.getElem?_of_mem hm
    have hi' : i < fs.size := by have := (List.getElem?_eq_some_iff.1 hi).1; simpa using this
    have := hx i f (by rw [← hi, Array.getElem?_toList])
    rw [List.getElem?_eq_getElem (by omega)] at this
    exact ⟨_, this⟩)
  exact ⟨a, by simpa using hk, hg⟩
/-- A structure by its fields: where the kind's own value is the tuple. -/
theorem opens_iso {α β : Type} {t : TypeId} {d : Kd α} {G : α → Prop} (f : β → α) (g : α → β) (hfg : ∀ a, f (g a) = a) (h : Opens enc P w base spare held t d G) : Opens enc P w base spare held t (Kd.iso d f) (fun b => G (f b)) := by
  intro fuel cs x hx
  obtain ⟨a, hk, ha⟩ := h fuel cs x hx
  refine ⟨g a, ?_, by show G (f (g a)); rw [hfg]; exact ha⟩
  show d.K w (f (g a)) cs
  rw [hfg]
  exact hk
/-- An argument: its cells, by the kind. -/
theorem opens_arg {α : Type} {t : TypeId} {d : Kd α} {G : α → Prop} {v : Value} {dd : DataW H} {p : List MemPlace} (ho : Opens enc P w base spare held t d G) (h : DataW.Trod enc P w base spare held t v dd p) : ∃ a, d.K w a v.cells.toList ∧ G a := by
  obtain ⟨fuel, hf⟩ := h
  exact ho _ _ _ hf
end
end Go.Proofs.Ytcbaokflimdjnaa.Open
end
