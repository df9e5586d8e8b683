/- Part 1 of the proof: general lemmas, contracts of functions, walks. No condition of its own. -/
import Derived.Deep.RegionWith
import Derived.Deep.RegionHeld3
import Derived.Deep.DeepCutAuto
import Derived.Test.YtcbaokflimdjnaaPR3
import Derived.Test.YtcbaokflimdjnaaPV24
import Derived.Test.YtcbaokflimdjnaaPV21
import Derived.Test.YtcbaokflimdjnaaPV17
import Derived.Test.YtcbaokflimdjnaaPV2
import Derived.Test.YtcbaokflimdjnaaPV1
import Derived.Test.YtcbaokflimdjnaaPR1
import Derived.Test.YtcbaokflimdjnaaPV11
import Derived.Test.YtcbaokflimdjnaaPV10
import Derived.Test.YtcbaokflimdjnaaPV3
import Derived.Test.YtcbaokflimdjnaaPR2
import Derived.Test.YtcbaokflimdjnaaPV4
import Derived.Test.YtcbaokflimdjnaaPV5
import Derived.Test.YtcbaokflimdjnaaPV6
import Derived.Test.YtcbaokflimdjnaaPV7
import Derived.Test.YtcbaokflimdjnaaPV9
import Derived.Test.YtcbaokflimdjnaaPV8
import Derived.Test.YtcbaokflimdjnaaPV12
import Derived.Test.YtcbaokflimdjnaaPV13
import Derived.Test.YtcbaokflimdjnaaPV14
import Derived.Test.YtcbaokflimdjnaaPV15
import Derived.Test.YtcbaokflimdjnaaPV16
import Derived.Test.YtcbaokflimdjnaaPV18
import Derived.Test.YtcbaokflimdjnaaPV20
import Derived.Test.YtcbaokflimdjnaaPV19
import Derived.Test.YtcbaokflimdjnaaPV23
import Derived.Test.YtcbaokflimdjnaaPV22
import Derived.Test.YtcbaokflimdjnaaPV27
import Derived.Test.YtcbaokflimdjnaaPV26
import Derived.Test.YtcbaokflimdjnaaPV25
import Derived.Test.YtcbaokflimdjnaaPV28
section
namespace Go.Proofs.Ytcbaokflimdjnaa.Flow
open Go.RowKit Go.Proofs.YtcbaokflimdjnaaW.PrintWords Go.Proofs.YtcbaokflimdjnaaW.PrintMore Go.Proofs.Ytcbaokflimdjnaa.Law Go.Proofs.Ytcbaokflimdjnaa Go.Proofs.Ytcbaokflimdjnaa.QFnExactVerify Go.Proofs.Ytcbaokflimdjnaa.Num
set_option linter.unusedVariables false
set_option linter.unusedSimpArgs false
set_option autoImplicit false
def deadI (x : Image) (fn : Int) : Int := if stOk x fn = true then ((el zFunc x.funcs fn.toNat).code.length : Int) - (trues (stReached x fn) : Int) else -1
set_option maxHeartbeats 8000000 in
set_option maxRecDepth 100000 in
theorem cDeadS (x : Image) (fn : Int) (A0 : Option Addr) (c0 : Nat) (A1 : Option Addr) (c1 : Nat) (w : World) (l0 : x.funcs.length ≤ c0) (g0 : kFuncI.C w A0 x.funcs.length x.funcs) (l1 : x.consts.length ≤ c1) (g1 : kConst.C w A1 x.consts.length x.consts) (hn : ∀ y ∈ x.consts, 0 ≤ y.num ∧ y.num < 18446744073709551616) :
    Calls Try.prog 27 #[.agg #[.slice A0 x.funcs.length c0, .slice A1 x.consts.length c1], .int .i64 fn] w fun e w' => e = .returned (.int .i64 (deadI x fn)) ∧ Below w.heap.size w w' := by
  have hu := Try.underlying37; have hu1 := Try.underlying34; have hu2 := Try.underlying73; have hu5 := Try.underlying49; have hu6 := Try.underlying70
  have G0 := Aside0.mk g0; have G1 := Aside0.mk g1; have HN := Aside0.mk hn; have L0 := Aside0.mk l0; have L1 := Aside0.mk l1
  clear g0 g1 hn l0 l1
  have M0 := Aside0.mk ((Mem.start w).allocAt rfl #[.slice A0 x.funcs.length c0, .slice A1 x.consts.length c1] 37)
  have z := M0.out.box (.head _)
  go_enter Try.func27, Try.ntmps27
  go_wp2_with fail
  refine (cReachS x fn A0 c0 A1 c1 _ L0.out (Kd.C_below G0.out M0.out.below) L1.out (Kd.C_below G1.out M0.out.below) HN.out).mono ?_
  rintro e w1 ⟨rfl, hb⟩
  have M1 := Aside0.mk (M0.out.step hb)
  clear hb M0 z
  have hrl := reached_len x fn
  rcases Bool.eq_false_or_eq_true (stOk x fn) with ho | ho
  rotate_left
  · have HE := Aside0.mk (show deadI x fn = -1 by unfold deadI; rw [if_neg (by rw [ho]; decide)])
    rw [show reachI x fn = -1 by unfold reachI; rw [if_neg (by rw [ho]; decide)]]
    clear hrl ho
    go_wp2
    go_ret
    exact ⟨by rw [HE.out]; rfl, M1.out.below⟩
  obtain ⟨hq1, hq2, hq3, hq4⟩ := hrl.2 ho
  obtain ⟨n, hn⟩ : ∃ n, n = trues (stReached x fn) := ⟨_, rfl⟩
  have hn1 : n ≤ 300 := by rw [hn]; exact Nat.le_trans List.countP_le_length hrl.1
  have HE := Aside0.mk (show deadI x fn = ((el zFunc x.funcs fn.toNat).code.length : Int) - (n : Int) by unfold deadI; rw [if_pos ho, hn])
  rw [show reachI x fn = (n : Int) by unfold reachI; rw [if_pos ho, hn]]
  clear hrl ho hn
  obtain ⟨jf, rfl⟩ : ∃ jf : Nat, fn = jf := ⟨fn.toNat, by omega⟩
  rw [Int.toNat_natCast] at hq1 hq3 HE
  have hkl := (fn_ok hq4 (el_mem zFunc hq3)).kl
  obtain ⟨fa, A2, c2, A3, c3, A4, c4, hfa, x0, x1, x2, x3, x4, hcap, hcode, hhan⟩ := func_at5 G0.out jf hq3
  cases hfa
  have y3 := pw_cell_below M1.out.below x3
  obtain ⟨m, hm⟩ : ∃ m, m = (el zFunc x.funcs jf).code.length := ⟨_, rfl⟩
  rw [← hm] at y3 HE hkl
  have j1 : (0 : Int) ≤ (jf : Int) := by omega
  have j2 : (jf : Int) < (x.funcs.length : Int) := by omega
  have hn0 : ¬ (n : Int) < 0 := by omega
  have z := M1.out.box (.head _)
  clear x0 x1 x2 x3 x4 hcap hcode hhan hm hq1 hq4
  go_wp2
  go_ret
  exact ⟨by rw [HE.out]; go_num, M1.out.below⟩
set_option maxHeartbeats 8000000 in
set_option maxRecDepth 100000 in
theorem cDeadI (x : Image) (fn : Int) (A0 : Option Addr) (c0 : Nat) (A1 : Option Addr) (c1 : Nat) (w : World) (l0 : x.funcs.length ≤ c0) (g0 : kFuncI.C w A0 x.funcs.length x.funcs) (l1 : x.consts.length ≤ c1) (g1 : kConst.C w A1 x.consts.length x.consts) (hn : ∀ y ∈ x.consts, 0 ≤ y.num ∧ y.num < 18446744073709551616) :
    Calls Try.prog 28 #[.agg #[.slice A0 x.funcs.length c0, .slice A1 x.consts.length c1], .int .i64 fn] w fun e w' => e = .returned (.int .i64 (deadI x fn)) ∧ Below w.heap.size w w' := by
  have hu := Try.underlying37; have hu1 := Try.underlying34; have hu2 := Try.underlying73; have hu5 := Try.underlying49; have hu6 := Try.underlying70
  have G0 := Aside0.mk g0; have G1 := Aside0.mk g1; have HN := Aside0.mk hn; have L0 := Aside0.mk l0; have L1 := Aside0.mk l1
  clear g0 g1 hn l0 l1
  have M0 := Aside0.mk ((Mem.start w).allocAt rfl #[.slice A0 x.funcs.length c0, .slice A1 x.consts.length c1] 37)
  have z := M0.out.box (.head _)
  go_enter Try.func28, Try.ntmps28
  go_wp2_with fail
  refine (cReachI x fn A0 c0 A1 c1 _ L0.out (Kd.C_below G0.out M0.out.below) L1.out (Kd.C_below G1.out M0.out.below) HN.out).mono ?_
  rintro e w1 ⟨rfl, hb⟩
  have M1 := Aside0.mk (M0.out.step hb)
  clear hb M0 z
  have hrl := reached_len x fn
  rcases Bool.eq_false_or_eq_true (stOk x fn) with ho | ho
  rotate_left
  · have HE := Aside0.mk (show deadI x fn = -1 by unfold deadI; rw [if_neg (by rw [ho]; decide)])
    rw [show reachI x fn = -1 by unfold reachI; rw [if_neg (by rw [ho]; decide)]]
    clear hrl ho
    go_wp2
    go_ret
    exact ⟨by rw [HE.out]; rfl, M1.out.below⟩
  obtain ⟨hq1, hq2, hq3, hq4⟩ := hrl.2 ho
  obtain ⟨n, hn⟩ : ∃ n, n = trues (stReached x fn) := ⟨_, rfl⟩
  have hn1 : n ≤ 300 := by rw [hn]; exact Nat.le_trans List.countP_le_length hrl.1
  have HE := Aside0.mk (show deadI x fn = ((el zFunc x.funcs fn.toNat).code.length : Int) - (n : Int) by unfold deadI; rw [if_pos ho, hn])
  rw [show reachI x fn = (n : Int) by unfold reachI; rw [if_pos ho, hn]]
  clear hrl ho hn
  obtain ⟨jf, rfl⟩ : ∃ jf : Nat, fn = jf := ⟨fn.toNat, by omega⟩
  rw [Int.toNat_natCast] at hq1 hq3 HE
  have hkl := (fn_ok hq4 (el_mem zFunc hq3)).kl
  obtain ⟨fa, A2, c2, A3, c3, A4, c4, hfa, x0, x1, x2, x3, x4, hcap, hcode, hhan⟩ := func_at5 G0.out jf hq3
  cases hfa
  have y3 := pw_cell_below M1.out.below x3
  obtain ⟨m, hm⟩ : ∃ m, m = (el zFunc x.funcs jf).code.length := ⟨_, rfl⟩
  rw [← hm] at y3 HE hkl
  have j1 : (0 : Int) ≤ (jf : Int) := by omega
  have j2 : (jf : Int) < (x.funcs.length : Int) := by omega
  have hn0 : ¬ (n : Int) < 0 := by omega
  have z := M1.out.box (.head _)
  clear x0 x1 x2 x3 x4 hcap hcode hhan hm hq1 hq4
  go_wp2
  go_ret
  exact ⟨by rw [HE.out]; go_num, M1.out.below⟩
end Go.Proofs.Ytcbaokflimdjnaa.Flow
end
section
namespace Go.Proofs.Ytcbaokflimdjnaa.LawFnExactDeadOf
open Go.RowKit Go.Proofs.YtcbaokflimdjnaaW.PrintWords Go.Proofs.YtcbaokflimdjnaaW.PrintMore Go.Proofs.Ytcbaokflimdjnaa.Law Go.Proofs.Ytcbaokflimdjnaa.Num Go.Proofs.Ytcbaokflimdjnaa Go.Proofs.Ytcbaokflimdjnaa.Flow
set_option linter.unusedVariables false
set_option linter.unusedSimpArgs false
set_option autoImplicit false
set_option maxHeartbeats 8000000 in
set_option maxRecDepth 100000 in
theorem w1 (x : Image) (fn : Int) (A0 A1 : Option Addr) (c0 c1 : Nat) (w : World) (hx : kImageL.K w x [.slice A0 x.funcs.length c0, .slice A1 x.consts.length c1]) (gx : GoodImage x) (e1 : sub 1048576 (sizeImage x) = -1) :
    Calls Try.prog 6 #[.agg #[.slice A0 x.funcs.length c0, .slice A1 x.consts.length c1], .int .i64 fn] w fun e w' => e = .returned (.bool true) ∧ Below w.heap.size w w' := by
  have hu := Try.underlying25; have hu2 := Try.underlying37
  have HX := Aside0.mk hx; clear hx
  have M0 := Aside0.mk ((Mem.start w).allocAt rfl #[.slice A0 x.funcs.length c0, .slice A1 x.consts.length c1] 25)
  go_enter Try.func6, Try.ntmps6
  go_wp2_with fail
  have C := szImage x _ 1048576 _ (M0.out.old HX.out) gx (by omega) (by omega)
  rw [e1] at C
  refine C.mono ?_; clear C
  rintro e w1 ⟨rfl, hb⟩
  have M1 := Aside0.mk (M0.out.step hb); clear M0 hb; have z0 := M1.out.box (.head _)
  go_wp2
  go_ret
  exact ⟨rfl, M1.out.below⟩
set_option maxHeartbeats 8000000 in
set_option maxRecDepth 100000 in
theorem w2 (x : Image) (fn : Int) (A0 A1 : Option Addr) (c0 c1 : Nat) (w : World) (hx : kImageL.K w x [.slice A0 x.funcs.length c0, .slice A1 x.consts.length c1]) (gx : GoodImage x) (s1 : Int) (e1 : sub 1048576 (sizeImage x) = s1) (n1 : 0 ≤ s1) (hlx : LenImage x) (hn : ∀ y ∈ x.consts, 0 ≤ y.num ∧ y.num < 18446744073709551616) :
    Calls Try.prog 6 #[.agg #[.slice A0 x.funcs.length c0, .slice A1 x.consts.length c1], .int .i64 fn] w fun e w' => e = .returned (.bool true) ∧ Below w.heap.size w w' := by
  have hu := Try.underlying25; have hu2 := Try.underlying37
  have HX := Aside0.mk hx; have HLX := Aside0.mk hlx; have HN := Aside0.mk hn; clear hx hlx hn
  obtain ⟨s, hs⟩ : ∃ s, s = deadI x fn := ⟨_, rfl⟩
  have HS := Aside0.mk hs; clear hs
  have hr1 : (s != s) = false := by simp
  have M0 := Aside0.mk ((Mem.start w).allocAt rfl #[.slice A0 x.funcs.length c0, .slice A1 x.consts.length c1] 25)
  go_enter Try.func6, Try.ntmps6
  go_wp2_with fail
  have C := szImage x _ 1048576 _ (M0.out.old HX.out) gx (by omega) (by omega)
  rw [e1] at C
  refine C.mono ?_; clear C
  rintro e w1 ⟨rfl, hb⟩
  have M1 := Aside0.mk (M0.out.step hb); clear M0 hb; have z0 := M1.out.box (.head _)
  have m1 : decide (s1 < 0) = false := by simp; omega
  go_wp2_with fail
  clear z0
  refine (toImage x _ _ (M1.out.old HX.out) HLX.out).mono ?_; rintro e w2 ⟨ds, rfl, hm, hb⟩; obtain ⟨q0, d0, q1, d1, rfl, i0, j0, i1, j1⟩ := kImageI_open (kImageI.K_of_M hm)
  have M2 := Aside0.mk (M1.out.push hb hm); clear hm hb M1
  have I0 := Aside0.mk i0; have J0 := Aside0.mk j0; have I1 := Aside0.mk i1; have J1 := Aside0.mk j1; clear i0 j0 i1 j1
  have z0 := M2.out.box (.tail _ (.head _))
  go_wp2_with fail
  clear z0
  refine (cDeadS x fn _ _ _ _ _ I0.out J0.out I1.out J1.out HN.out).mono ?_; rintro e w3 ⟨rfl, hb⟩
  have M3 := Aside0.mk ((M2.out.step hb).drop); clear hb M2 I0 J0 I1 J1
  rw [← HS.out]
  have z0 := M3.out.box (.head _)
  go_wp2_with fail
  clear z0
  refine (toImage x _ _ (M3.out.old HX.out) HLX.out).mono ?_; rintro e w4 ⟨ds, rfl, hm, hb⟩; obtain ⟨q2, d2, q3, d3, rfl, i0, j0, i1, j1⟩ := kImageI_open (kImageI.K_of_M hm)
  have N4 := Aside0.mk (M3.out.push hb hm); clear hm hb M3 i0 j0 i1 j1
  have M4 := Aside0.mk (N4.out.allocAt rfl #[.slice q2 x.funcs.length d2, .slice q3 x.consts.length d3] 37); clear N4
  have z0 := M4.out.box (.tail _ (.tail _ (.head _))); have z1 := M4.out.box (.head _)
  go_wp2_with fail
  clear z0 z1
  obtain ⟨i0, j0, i1, j1⟩ : x.funcs.length ≤ d2 ∧ kFuncI.C (w4.alloc (.cells #[.slice q2 x.funcs.length d2, .slice q3 x.consts.length d3] 37)) q2 x.funcs.length x.funcs ∧ x.consts.length ≤ d3 ∧ kConst.C (w4.alloc (.cells #[.slice q2 x.funcs.length d2, .slice q3 x.consts.length d3] 37)) q3 x.consts.length x.consts := by
    obtain ⟨q0', d0', q1', d1', h, i0, j0, i1, j1⟩ := kImageI_open (M4.out.read (.tail _ (.head _)))
    cases h
    exact ⟨i0, j0, i1, j1⟩
  refine (cDeadI x fn _ _ _ _ _ i0 j0 i1 j1 HN.out).mono ?_; rintro e w5 ⟨rfl, hb⟩
  have M5 := Aside0.mk (M4.out.step hb); clear hb M4
  rw [← HS.out]
  have z0 := M5.out.box (.tail _ (.tail _ (.head _))); have z1 := M5.out.box (.head _)
  go_wp2_with fail
  have RX := Aside0.mk (M5.out.read (.tail _ (.head _)))
  obtain ⟨L, HL, ML⟩ := Mem.hide M5
  have Ebx := Aside0.mk (show (Hold.box w4.heap.size #[.slice q2 x.funcs.length d2, .slice q3 x.consts.length d3] 37) ∈ L from HL.out ▸ (.head _))
  have EbA := Aside0.mk (show (Hold.box w.heap.size #[.slice A0 x.funcs.length c0, .slice A1 x.consts.length c1] 25) ∈ L from HL.out ▸ (.tail _ (.tail _ (.head _))))
  clear M5 z0 z1
  go_region_held3 (fun W => (∀ o, W.cell? ⟨w4.heap.size, o, none⟩ = (#[.slice q2 x.funcs.length d2, .slice q3 x.consts.length d3] : Array Value)[o]?) ∧ (∀ o, W.cell? ⟨w.heap.size, o, none⟩ = (#[.slice A0 x.funcs.length c0, .slice A1 x.consts.length c1] : Array Value)[o]?) ∧ Mem w W L) (first | exact ⟨(ML.out.drew).box Ebx.out, (ML.out.drew).box EbA.out, ML.out.drew⟩ | exact ⟨(N6.out.drop).box Ebx.out, (N6.out.drop).box EbA.out, N6.out.drop⟩ | exact ⟨(M7.out).box Ebx.out, (M7.out).box EbA.out, M7.out⟩) (first | (go_at_call 15; refine (toImage x _ _ (ML.out.drew.old HX.out) HLX.out).mono ?_; rintro e w6 ⟨ds, rfl, hm, hb⟩; obtain ⟨v0, v1, rfl, hr0, hr1⟩ := kImageI_openM hm; obtain ⟨X0, y0, rfl⟩ := Kd.R_slice hr0; obtain ⟨X1, y1, rfl⟩ := Kd.R_slice hr1; clear hr0 hr1; have N6 := Aside0.mk (ML.out.drew.push hb hm); have RX2 := Aside0.mk (kImageI.K_below (below_step (below_drew1 (Below.refl _ _)) hb) RX.out); clear hm hb) | (go_at_call 19; have C := eqImage x x _ _ _ RX2.out (N6.out.read (.head _)); rw [decide_eq_true rfl] at C; refine C.mono ?_; clear C; rintro e w7 ⟨rfl, hb⟩; have M7 := Aside0.mk ((N6.out.step hb).drop); clear hb))
  clear ML RX RX2 N6
  have hl := HL.out; subst hl; clear HL Ebx EbA
  go_wp2
  go_ret
  exact ⟨rfl, M7.out.below⟩
theorem le_sum {l : List Func} {y : Func} (h : y ∈ l) : sizeFunc y ≤ (l.map sizeFunc).sum := by
  induction l with
  | nil => cases h
  | cons a l ih =>
    rw [List.map_cons, List.sum_cons]
    rcases List.mem_cons.1 h with rfl | h
    · omega
    · have := ih h
      omega
theorem len_ok {x : Image} (h : (sizeImage x : Int) ≤ 1048576) : LenImage x := by
  have e : sizeImage x = x.funcs.length + (x.funcs.map sizeFunc).sum + (x.consts.length + (x.consts.map sizeConst).sum) := rfl
  refine ⟨by omega, fun y hy => ?_, by omega⟩
  have h1 := le_sum hy
  have e2 : sizeFunc y = y.caps.length + y.code.length + y.handlers.length := rfl
  exact ⟨by omega, by omega, by omega⟩
theorem law {GF : Func → Prop} (A0_0 : Option Addr) (c0_0 : Nat) (l0_0 : List Func) (A0_1 : Option Addr) (c0_1 : Nat) (l0_1 : List Const) (z1 : Int) (w : World)
    (hr0_0 : kFuncL.C w A0_0 l0_0.length l0_0) (hc0_0 : l0_0.length ≤ c0_0) (hr0_1 : kConst.C w A0_1 l0_1.length l0_1) (hc0_1 : l0_1.length ≤ c0_1)
    (g0 : (l0_0.length ≤ maxLen ∧ ∀ x ∈ l0_0, GF x) ∧ (l0_1.length ≤ maxLen ∧ ∀ x ∈ l0_1, (Lit.int .i64 x.kind).wf = true ∧ (Lit.int .u64 x.num).wf = true ∧ x.text.size ≤ maxLen)) (g1 : (Lit.int .i64 z1).wf = true) :
    Calls Try.prog 6 #[.agg #[.slice A0_0 l0_0.length c0_0, .slice A0_1 l0_1.length c0_1], .int .i64 z1] w fun e w' => e = .returned (.bool true) ∧ Below w.heap.size w w' := by
  have hx := kImageL_mk w ⟨l0_0, l0_1⟩ hc0_0 hr0_0 hc0_1 hr0_1
  have gx : GoodImage ⟨l0_0, l0_1⟩ := ⟨fun _ _ => trivial, fun y hy => (g0.2.2 y hy).2.2⟩
  by_cases n1 : (1048576 : Int) < (sizeImage ⟨l0_0, l0_1⟩ : Int)
  · exact w1 ⟨l0_0, l0_1⟩ z1 _ _ _ _ w hx gx (by unfold sub; rw [if_pos n1])
  · have e1 : sub 1048576 (sizeImage ⟨l0_0, l0_1⟩) = 1048576 - (sizeImage ⟨l0_0, l0_1⟩ : Int) := by unfold sub; rw [if_neg n1]
    exact w2 ⟨l0_0, l0_1⟩ z1 _ _ _ _ w hx gx _ e1 (by omega) (len_ok (by omega)) (fun y hy => by have h := (g0.2.2 y hy).2.1; exact wf_u64 h)
end Go.Proofs.Ytcbaokflimdjnaa.LawFnExactDeadOf
end
