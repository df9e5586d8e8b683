/- Part 28 of the proof: general lemmas, contracts of functions, walks. No condition of its own. -/
import Derived.WalkKit
import Derived.KernelRfl
import Derived.Deep.LoopGhost
import Derived.Deep.QuietTactic
import Derived.BigQuiet
import Derived.RowKit3
import Derived.Deep.RegionWith
import Derived.Deep.RegionHeld3
import Derived.WalkLawsBesides
import Derived.Deep.DeepCutAuto
import Derived.ProofKit
import Derived.OpenShut
import Derived.ChangeOld
import Derived.ChangeShapes
import Derived.WideShapes
import Derived.ChangeArms
import Derived.DataReads
import Derived.DataElems
import Derived.Test.YtcbaokflimdjnaaPV24
import Derived.Test.YtcbaokflimdjnaaPV27
import Derived.Test.YtcbaokflimdjnaaPV11
import Derived.Test.YtcbaokflimdjnaaPV2
import Derived.Test.YtcbaokflimdjnaaPV1
section
namespace Go.Proofs.Ytcbaokflimdjnaa.Flow
open Go.RowKit Go.Proofs.YtcbaokflimdjnaaW.PrintWords Go.Proofs.YtcbaokflimdjnaaW.PrintLast Go.Proofs.YtcbaokflimdjnaaW.PrintMore Go.Proofs.Ytcbaokflimdjnaa.Law Go.Proofs.Ytcbaokflimdjnaa Go.Proofs.Ytcbaokflimdjnaa.QFnExactVerify Go.Proofs.Ytcbaokflimdjnaa.Num Go.Proofs.Ytcbaokflimdjnaa.PureJoin
set_option linter.unusedVariables false
set_option linter.unusedSimpArgs false
set_option autoImplicit false
def verN (x : Image) : Nat → Nat → Int
  | 0, _ => -1
  | k + 1, i => if (final x (el zFunc x.funcs i)).bad = true then (i : Int) else verN x k (i + 1)
def verI (x : Image) : Int := if imgB x = true then verN x x.funcs.length 0 else -2
theorem ver_step {x : Image} {n k : Nat} (hk : k < n) : verN x (n - k) k = if (final x (el zFunc x.funcs k)).bad = true then (k : Int) else verN x (n - (k + 1)) (k + 1) := by
  obtain ⟨d, hd⟩ : ∃ d, n - k = d + 1 := ⟨n - k - 1, by omega⟩
  rw [hd, show n - (k + 1) = d by omega]
  rfl
set_option maxHeartbeats 8000000 in
set_option maxRecDepth 100000 in
theorem cVerS (x : Image) (A0 : Option Addr) (c0 : Nat) (A1 : Option Addr) (c1 : Nat) (w : World) (l0 : x.funcs.length ≤ c0) (g0 : kFuncI.C w A0 x.funcs.length x.funcs) (l1 : x.consts.length ≤ c1) (g1 : kConst.C w A1 x.consts.length x.consts) (hn : ∀ y ∈ x.consts, 0 ≤ y.num ∧ y.num < 18446744073709551616) :
    Calls Try.prog 23 #[.agg #[.slice A0 x.funcs.length c0, .slice A1 x.consts.length c1]] w fun e w' => e = .returned (.int .i64 (verI x)) ∧ Below w.heap.size w w' := by
  have hu := Try.underlying37; have hu1 := Try.underlying34; have hu2 := Try.underlying89
  have G0 := Aside0.mk g0; have G1 := Aside0.mk g1; have HN := Aside0.mk hn; have L0 := Aside0.mk l0; have L1 := Aside0.mk l1
  clear g0 g1 hn l0 l1
  have M0 := Aside0.mk ((Mem.start w).allocAt rfl #[.slice A0 x.funcs.length c0, .slice A1 x.consts.length c1] 37)
  have z := M0.out.box (.head _)
  go_enter Try.func23, Try.ntmps23
  go_wp2_with fail
  refine (cImageOkS x A0 c0 A1 c1 _ L0.out (Kd.C_below G0.out M0.out.below) L1.out (Kd.C_below G1.out M0.out.below) HN.out).mono ?_
  rintro e w1 ⟨rfl, hb⟩
  have M1 := Aside0.mk (M0.out.step hb); clear hb M0 z
  rcases Bool.eq_false_or_eq_true (imgB x) with hi | hi
  rotate_left
  · rw [hi]
    have HR := Aside0.mk (show verI x = -2 by unfold verI; rw [hi]; rfl)
    clear hi
    go_wp2
    go_ret
    exact ⟨by rw [HR.out]; rfl, M1.out.below⟩
  rw [hi]
  have HR := Aside0.mk (show verI x = verN x x.funcs.length 0 by unfold verI; rw [if_pos hi])
  have HI := Aside0.mk hi; clear hi
  have hlen := (img_len HI.out).2.1
  go_upto_region 4 with fail
  go_loopw [3] (fun v wx => ∃ k : Nat, v = .int .i64 k ∧ k ≤ x.funcs.length ∧ Aside0 (verN x x.funcs.length 0 = verN x (x.funcs.length - k) k) ∧ Aside0 (Mem w wx [Hold.box w.heap.size #[.slice A0 x.funcs.length c0, .slice A1 x.consts.length c1] 37])) (fun v _ => x.funcs.length - (intOf v).toNat)
  case atStart => exact ⟨0, rfl, by omega, ⟨rfl⟩, M1⟩
  case round =>
  clear M1
  obtain ⟨k, rfl, hk, HV, M2⟩ := hrel
  have z := M2.out.box (.head _)
  by_cases hlt : k < x.funcs.length
  · have hle : (k : Int) < (x.funcs.length : Int) := by omega
    have HS := Aside0.mk (ver_step (x := x) hlt)
    go_wp2_with fail
    refine (cStatesS x k (fn_ok HI.out (el_mem zFunc hlt)) hlt A0 c0 A1 c1 _ L0.out (Kd.C_below G0.out M2.out.below)).mono ?_
    rintro e w3 ⟨g, lo, vl, vr, vt, r, rfl, hR, hbd, _⟩
    have RR := Aside0.mk hR
    have M3 := Aside0.mk (M2.out.step hR.below); clear hR z M2
    have q3 := (blk_cell RR.out.box 3).trans rfl
    rcases Bool.eq_false_or_eq_true r.bad with hb | hb
    · rw [hb] at q3 hbd
      have HE := Aside0.mk (show verI x = (k : Int) by rw [HR.out, HV.out, HS.out, if_pos hbd.symm])
      clear hb hbd
      go_wp2
      go_ret
      exact ⟨by rw [HE.out]; rfl, M3.out.below⟩
    · rw [hb] at q3 hbd
      have HE := Aside0.mk (show verN x x.funcs.length 0 = verN x (x.funcs.length - (k + 1)) (k + 1) by rw [HV.out, HS.out, if_neg (by rw [← hbd]; decide)])
      clear hb hbd
      go_wp2
      go_roundw
      case measure => simp [intOf]; omega
      case rel => exact ⟨k + 1, by go_num, by omega, HE, M3⟩
  · have hle : ¬ (k : Int) < (x.funcs.length : Int) := by omega
    obtain rfl : k = x.funcs.length := by omega
    have HE := Aside0.mk (show verI x = -1 by rw [HR.out, HV.out, Nat.sub_self]; rfl)
    go_wp2
    go_ret
    exact ⟨by rw [HE.out]; rfl, M2.out.below⟩
set_option maxHeartbeats 8000000 in
set_option maxRecDepth 100000 in
theorem cVerI (x : Image) (A0 : Option Addr) (c0 : Nat) (A1 : Option Addr) (c1 : Nat) (w : World) (l0 : x.funcs.length ≤ c0) (g0 : kFuncI.C w A0 x.funcs.length x.funcs) (l1 : x.consts.length ≤ c1) (g1 : kConst.C w A1 x.consts.length x.consts) (hn : ∀ y ∈ x.consts, 0 ≤ y.num ∧ y.num < 18446744073709551616) :
    Calls Try.prog 24 #[.agg #[.slice A0 x.funcs.length c0, .slice A1 x.consts.length c1]] w fun e w' => e = .returned (.int .i64 (verI x)) ∧ Below w.heap.size w w' := by
  have hu := Try.underlying37; have hu1 := Try.underlying34
  have G0 := Aside0.mk g0; have G1 := Aside0.mk g1; have HN := Aside0.mk hn; have L0 := Aside0.mk l0; have L1 := Aside0.mk l1
  clear g0 g1 hn l0 l1
  have M0 := Aside0.mk ((Mem.start w).allocAt rfl #[.slice A0 x.funcs.length c0, .slice A1 x.consts.length c1] 37)
  have z := M0.out.box (.head _)
  go_enter Try.func24, Try.ntmps24
  go_wp2_with fail
  refine (cImageOkI x A0 c0 A1 c1 _ L0.out (Kd.C_below G0.out M0.out.below) L1.out (Kd.C_below G1.out M0.out.below) HN.out).mono ?_
  rintro e w1 ⟨rfl, hb⟩
  have M1 := Aside0.mk (M0.out.step hb); clear hb M0 z
  rcases Bool.eq_false_or_eq_true (imgB x) with hi | hi
  rotate_left
  · rw [hi]
    have HR := Aside0.mk (show verI x = -2 by unfold verI; rw [hi]; rfl)
    clear hi
    go_wp2
    go_ret
    exact ⟨by rw [HR.out]; rfl, M1.out.below⟩
  rw [hi]
  have HR := Aside0.mk (show verI x = verN x x.funcs.length 0 by unfold verI; rw [if_pos hi])
  have HI := Aside0.mk hi; clear hi
  have hlen := (img_len HI.out).2.1
  have hpos := (img_len HI.out).1
  obtain ⟨fa, A2, c2, A3, c3, A4, c4, hfa, _⟩ := func_at5 G0.out 0 (by omega)
  subst hfa
  have z := M1.out.box (.head _)
  go_upto_region 4 with fail
  clear z
  go_loopw [13] (fun v wx => ∃ k : Nat, v = .int .i64 k ∧ k ≤ x.funcs.length ∧ Aside0 (verN x x.funcs.length 0 = verN x (x.funcs.length - k) k) ∧ Aside0 (Mem w wx [Hold.box w.heap.size #[.slice (some fa) x.funcs.length c0, .slice A1 x.consts.length c1] 37])) (fun v _ => x.funcs.length - (intOf v).toNat)
  case atStart => exact ⟨0, rfl, by omega, ⟨rfl⟩, M1⟩
  case round =>
  clear M1
  obtain ⟨k, rfl, hk, HV, M2⟩ := hrel
  by_cases hlt : k < x.funcs.length
  · have hle : (k : Int) < (x.funcs.length : Int) := by omega
    have HS := Aside0.mk (ver_step (x := x) hlt)
    go_wp2_with fail
    refine (cStates x k (fn_ok HI.out (el_mem zFunc hlt)) hlt w.heap.size fa c0 A1 c1 _ ((M2.out.box (.head _) 0).trans rfl) ((M2.out.box (.head _) 1).trans rfl) (Kd.C_below G0.out M2.out.below)).mono ?_
    rintro e w3 ⟨v1, v2, rfl, _, _, hb3⟩
    have M3 := Aside0.mk (M2.out.step hb3); clear hb3 M2
    rcases Bool.eq_false_or_eq_true (final x (el zFunc x.funcs k)).bad with hb | hb
    · have HE := Aside0.mk (show verI x = (k : Int) by rw [HR.out, HV.out, HS.out, if_pos hb])
      rw [hb]
      clear hb
      go_wp2
      go_ret
      exact ⟨by rw [HE.out]; rfl, M3.out.below⟩
    · have HE := Aside0.mk (show verN x x.funcs.length 0 = verN x (x.funcs.length - (k + 1)) (k + 1) by rw [HV.out, HS.out, if_neg (by rw [hb]; decide)])
      rw [hb]
      clear hb
      go_wp2
      go_roundw
      case measure => simp [intOf]; omega
      case rel => exact ⟨k + 1, by go_num, by omega, HE, M3⟩
  · have hle : ¬ (k : Int) < (x.funcs.length : Int) := by omega
    obtain rfl : k = x.funcs.length := by omega
    have HE := Aside0.mk (show verI x = -1 by rw [HR.out, HV.out, Nat.sub_self]; rfl)
    go_wp2
    go_ret
    exact ⟨by rw [HE.out]; rfl, M2.out.below⟩
end Go.Proofs.Ytcbaokflimdjnaa.Flow
end
section
namespace Go.Proofs.Ytcbaokflimdjnaa
open Go.RowKit Go.Proofs.YtcbaokflimdjnaaW.PrintWords Go.Proofs.YtcbaokflimdjnaaW.PrintMore Go.Proofs.Ytcbaokflimdjnaa.Law Go.Proofs.Ytcbaokflimdjnaa.Num
set_option linter.unusedVariables false
set_option linter.unusedSimpArgs false
/-- What is left of a purse: -1 where it does not do. -/
def sub (left : Int) (n : Nat) : Int := if left < n then -1 else left - n
def sizeCapS (l : List Cap) : Nat := l.length
theorem szCapS (A : Option Addr) (c : Nat) (l : List Cap) (left : Int) (w : World) (hr : kCap.C w A l.length l) (h0 : 0 ≤ left) (h1 : left ≤ 1048576) :
    Calls Try.prog 128 #[.slice A l.length c, .int .i64 left] w fun e w' => e = .returned (.int .i64 (sub left (sizeCapS l))) ∧ Drawn0 w w' := by
  have hL : l.length ≤ 9223372036854775807 := hr.2.1
  unfold sizeCapS sub
  clear hr
  by_cases h : left < (l.length : Int)
  · rw [if_pos h]
    have d1 : decide (left - (l.length : Int) < 0) = true := by simp; omega
    have d2 : decide (left < (l.length : Int)) = true := by simp; omega
    go_enter Try.func128, Try.ntmps128
    go_wp2
    go_ret
    exact ⟨rfl, Drawn0.refl _⟩
  · rw [if_neg h]
    have d1 : decide (left - (l.length : Int) < 0) = false := by simp; omega
    have d2 : decide (left < (l.length : Int)) = false := by simp; omega
    go_enter Try.func128, Try.ntmps128
    go_wp2
    go_ret
    exact ⟨rfl, Drawn0.refl _⟩
def sizeInsS (l : List Ins) : Nat := l.length
theorem szInsS (A : Option Addr) (c : Nat) (l : List Ins) (left : Int) (w : World) (hr : kIns.C w A l.length l) (h0 : 0 ≤ left) (h1 : left ≤ 1048576) :
    Calls Try.prog 129 #[.slice A l.length c, .int .i64 left] w fun e w' => e = .returned (.int .i64 (sub left (sizeInsS l))) ∧ Drawn0 w w' := by
  have hL : l.length ≤ 9223372036854775807 := hr.2.1
  unfold sizeInsS sub
  clear hr
  by_cases h : left < (l.length : Int)
  · rw [if_pos h]
    have d1 : decide (left - (l.length : Int) < 0) = true := by simp; omega
    have d2 : decide (left < (l.length : Int)) = true := by simp; omega
    go_enter Try.func129, Try.ntmps129
    go_wp2
    go_ret
    exact ⟨rfl, Drawn0.refl _⟩
  · rw [if_neg h]
    have d1 : decide (left - (l.length : Int) < 0) = false := by simp; omega
    have d2 : decide (left < (l.length : Int)) = false := by simp; omega
    go_enter Try.func129, Try.ntmps129
    go_wp2
    go_ret
    exact ⟨rfl, Drawn0.refl _⟩
def sizeHandlerS (l : List Handler) : Nat := l.length
theorem szHandlerS (A : Option Addr) (c : Nat) (l : List Handler) (left : Int) (w : World) (hr : kHandler.C w A l.length l) (h0 : 0 ≤ left) (h1 : left ≤ 1048576) :
    Calls Try.prog 130 #[.slice A l.length c, .int .i64 left] w fun e w' => e = .returned (.int .i64 (sub left (sizeHandlerS l))) ∧ Drawn0 w w' := by
  have hL : l.length ≤ 9223372036854775807 := hr.2.1
  unfold sizeHandlerS sub
  clear hr
  by_cases h : left < (l.length : Int)
  · rw [if_pos h]
    have d1 : decide (left - (l.length : Int) < 0) = true := by simp; omega
    have d2 : decide (left < (l.length : Int)) = true := by simp; omega
    go_enter Try.func130, Try.ntmps130
    go_wp2
    go_ret
    exact ⟨rfl, Drawn0.refl _⟩
  · rw [if_neg h]
    have d1 : decide (left - (l.length : Int) < 0) = false := by simp; omega
    have d2 : decide (left < (l.length : Int)) = false := by simp; omega
    go_enter Try.func130, Try.ntmps130
    go_wp2
    go_ret
    exact ⟨rfl, Drawn0.refl _⟩
def sizeConst (x : Const) : Nat := x.text.size
def GoodConst (x : Const) : Prop := x.text.size ≤ maxLen
set_option maxHeartbeats 4000000 in
set_option maxRecDepth 100000 in
theorem szConst (x : Const) (cs : List Value) (left : Int) (w : World) (hk : kConst.K w x cs) (hgood : GoodConst x) (h0 : 0 ≤ left) (h1 : left ≤ 1048576) :
    Calls Try.prog 92 #[.agg ⟨cs⟩, .int .i64 left] w fun e w' => e = .returned (.int .i64 (sub left (sizeConst x))) ∧ Below w.heap.size w w' := by
  have ecs := kConst_open hk; subst ecs
  clear hk
  have hu := Try.underlying131
  unfold GoodConst at hgood
  have HG := Aside0.mk hgood
  have A0 := Aside0.mk ((At.start w).alloc #[.int .i64 x.kind, .int .u64 x.num, .string x.text] 131)
  obtain ⟨n0, hn0⟩ : ∃ q, q = x.text.size := ⟨_, rfl⟩
  have HN := Aside0.mk hn0
  have hb0 : n0 ≤ 9223372036854775807 := by have := HG.out; unfold maxLen at this; omega
  clear hn0
  clear hgood
  have hsize : sizeConst x = n0 := by unfold sizeConst; have h := HN.out; omega
  rw [hsize]; have HSZ := Aside0.mk hsize; clear hsize
  by_cases c0 : left < (n0 : Int)
  · skip
    have hfin : sub left (n0) = -1 := by unfold sub; rw [if_pos (by omega)]
    rw [hfin]; clear hfin
    have s0 : sub (left) n0 = -1 := by unfold sub; rw [if_pos (by omega)]
    have d0 : decide (left - (n0 : Int) < 0) = true := by simp; omega
    have d0b : decide (left < (n0 : Int)) = true := by simp; omega
    have S0 := Aside0.mk s0; clear s0
    have e0 : (x.text.size : Int) = (n0 : Int) := by have := HN.out; omega
    go_enter Try.func92, Try.ntmps92
    go_wp2
    go_ret
    exact ⟨rfl, A0.out.below⟩
  · skip
    have hfin : sub left (n0) = left - n0 := by unfold sub; rw [if_neg (by omega)] <;> omega
    rw [hfin]; clear hfin
    have s0 : sub (left) n0 = left - (n0 : Int) := by unfold sub; rw [if_neg (by omega)]
    have d0 : decide (left - (n0 : Int) < 0) = false := by simp; omega
    have g0 : 0 ≤ left - (n0 : Int) := by omega
    have d0b : decide (left < (n0 : Int)) = false := by simp; omega
    have S0 := Aside0.mk s0; clear s0
    have e0 : (x.text.size : Int) = (n0 : Int) := by have := HN.out; omega
    go_enter Try.func92, Try.ntmps92
    go_wp2
    go_ret
    exact ⟨rfl, A0.out.below⟩
def sizeFunc (x : Func) : Nat := sizeCapS x.caps + sizeInsS x.code + sizeHandlerS x.handlers
def GoodFunc (x : Func) : Prop := True
set_option maxHeartbeats 4000000 in
set_option maxRecDepth 100000 in
theorem szFunc (x : Func) (cs : List Value) (left : Int) (w : World) (hk : kFuncL.K w x cs) (hgood : GoodFunc x) (h0 : 0 ≤ left) (h1 : left ≤ 1048576) :
    Calls Try.prog 91 #[.agg ⟨cs⟩, .int .i64 left] w fun e w' => e = .returned (.int .i64 (sub left (sizeFunc x))) ∧ Below w.heap.size w w' := by
  obtain ⟨pA2, pc2, pA3, pc3, pA4, pc4, rfl, pl2, pg2, pl3, pg3, pl4, pg4⟩ := kFuncL_open hk
  have pG2 := Aside0.mk pg2; clear pg2 pl2
  have pG3 := Aside0.mk pg3; clear pg3 pl3
  have pG4 := Aside0.mk pg4; clear pg4 pl4
  clear hk
  have hu := Try.underlying129
  unfold GoodFunc at hgood
  have HG := Aside0.mk hgood
  have A0 := Aside0.mk ((At.start w).alloc #[.int .i64 x.params, .int .i64 x.regs, .slice pA2 x.caps.length pc2, .slice pA3 x.code.length pc3, .slice pA4 x.handlers.length pc4] 129)
  obtain ⟨n0, hn0⟩ : ∃ q, q = sizeCapS x.caps := ⟨_, rfl⟩
  obtain ⟨n1, hn1⟩ : ∃ q, q = sizeInsS x.code := ⟨_, rfl⟩
  obtain ⟨n2, hn2⟩ : ∃ q, q = sizeHandlerS x.handlers := ⟨_, rfl⟩
  have HN := Aside0.mk (show n0 = sizeCapS x.caps ∧ n1 = sizeInsS x.code ∧ n2 = sizeHandlerS x.handlers from ⟨hn0, hn1, hn2⟩)
  clear hn0
  clear hn1
  clear hn2
  clear hgood
  have hsize : sizeFunc x = n0 + n1 + n2 := by unfold sizeFunc; have h := HN.out; omega
  rw [hsize]; have HSZ := Aside0.mk hsize; clear hsize
  by_cases c0 : left < (n0 : Int)
  · skip
    have hfin : sub left (n0 + n1 + n2) = -1 := by unfold sub; rw [if_pos (by omega)]
    rw [hfin]; clear hfin
    have s0 : sub (left) n0 = -1 := by unfold sub; rw [if_pos (by omega)]
    have S0 := Aside0.mk s0; clear s0
    go_enter Try.func91, Try.ntmps91
    go_wp2_with fail
    refine (szCapS _ _ _ (left) _ (A0.out.reads pG2.out) (by omega) (by omega)).mono ?_
    rintro e w1 ⟨rfl, hb0⟩
    rw [show sizeCapS x.caps = n0 from (by have := HN.out; omega), S0.out]
    have A1 := Aside0.mk (A0.out.step (hb0.below)); clear A0 hb0; have z0 := A1.out.cell0
    go_wp2
    go_ret
    exact ⟨rfl, A1.out.below⟩
  · skip
    by_cases c1 : left - (n0 : Int) < (n1 : Int)
    · skip
      have hfin : sub left (n0 + n1 + n2) = -1 := by unfold sub; rw [if_pos (by omega)]
      rw [hfin]; clear hfin
      have s0 : sub (left) n0 = left - (n0 : Int) := by unfold sub; rw [if_neg (by omega)]
      have d0 : decide (left - (n0 : Int) < 0) = false := by simp; omega
      have g0 : 0 ≤ left - (n0 : Int) := by omega
      have S0 := Aside0.mk s0; clear s0
      have s1 : sub (left - (n0 : Int)) n1 = -1 := by unfold sub; rw [if_pos (by omega)]
      have S1 := Aside0.mk s1; clear s1
      go_enter Try.func91, Try.ntmps91
      go_wp2_with fail
      refine (szCapS _ _ _ (left) _ (A0.out.reads pG2.out) (by omega) (by omega)).mono ?_
      rintro e w1 ⟨rfl, hb0⟩
      rw [show sizeCapS x.caps = n0 from (by have := HN.out; omega), S0.out]
      have A1 := Aside0.mk (A0.out.step (hb0.below)); clear A0 hb0; have z0 := A1.out.cell0
      go_wp2_with fail
      refine (szInsS _ _ _ (left - (n0 : Int)) _ (A1.out.reads pG3.out) (by omega) (by omega)).mono ?_
      rintro e w2 ⟨rfl, hb0⟩
      rw [show sizeInsS x.code = n1 from (by have := HN.out; omega), S1.out]
      have A2 := Aside0.mk (A1.out.step (hb0.below)); clear A1 hb0 z0; have z0 := A2.out.cell0
      go_wp2
      go_ret
      exact ⟨rfl, A2.out.below⟩
    · skip
      by_cases c2 : left - (n0 : Int) - (n1 : Int) < (n2 : Int)
      · skip
        have hfin : sub left (n0 + n1 + n2) = -1 := by unfold sub; rw [if_pos (by omega)]
        rw [hfin]; clear hfin
        have s0 : sub (left) n0 = left - (n0 : Int) := by unfold sub; rw [if_neg (by omega)]
        have d0 : decide (left - (n0 : Int) < 0) = false := by simp; omega
        have g0 : 0 ≤ left - (n0 : Int) := by omega
        have S0 := Aside0.mk s0; clear s0
        have s1 : sub (left - (n0 : Int)) n1 = left - (n0 : Int) - (n1 : Int) := by unfold sub; rw [if_neg (by omega)]
        have d1 : decide (left - (n0 : Int) - (n1 : Int) < 0) = false := by simp; omega
        have g1 : 0 ≤ left - (n0 : Int) - (n1 : Int) := by omega
        have S1 := Aside0.mk s1; clear s1
        have s2 : sub (left - (n0 : Int) - (n1 : Int)) n2 = -1 := by unfold sub; rw [if_pos (by omega)]
        have S2 := Aside0.mk s2; clear s2
        go_enter Try.func91, Try.ntmps91
        go_wp2_with fail
        refine (szCapS _ _ _ (left) _ (A0.out.reads pG2.out) (by omega) (by omega)).mono ?_
        rintro e w1 ⟨rfl, hb0⟩
        rw [show sizeCapS x.caps = n0 from (by have := HN.out; omega), S0.out]
        have A1 := Aside0.mk (A0.out.step (hb0.below)); clear A0 hb0; have z0 := A1.out.cell0
        go_wp2_with fail
        refine (szInsS _ _ _ (left - (n0 : Int)) _ (A1.out.reads pG3.out) (by omega) (by omega)).mono ?_
        rintro e w2 ⟨rfl, hb0⟩
        rw [show sizeInsS x.code = n1 from (by have := HN.out; omega), S1.out]
        have A2 := Aside0.mk (A1.out.step (hb0.below)); clear A1 hb0 z0; have z0 := A2.out.cell0
        go_wp2_with fail
        refine (szHandlerS _ _ _ (left - (n0 : Int) - (n1 : Int)) _ (A2.out.reads pG4.out) (by omega) (by omega)).mono ?_
        rintro e w3 ⟨rfl, hb0⟩
        rw [show sizeHandlerS x.handlers = n2 from (by have := HN.out; omega), S2.out]
        have A3 := Aside0.mk (A2.out.step (hb0.below)); clear A2 hb0 z0; have z0 := A3.out.cell0
        go_wp2
        go_ret
        exact ⟨rfl, A3.out.below⟩
      · skip
        have hfin : sub left (n0 + n1 + n2) = left - n0 - n1 - n2 := by unfold sub; rw [if_neg (by omega)] <;> omega
        rw [hfin]; clear hfin
        have s0 : sub (left) n0 = left - (n0 : Int) := by unfold sub; rw [if_neg (by omega)]
        have d0 : decide (left - (n0 : Int) < 0) = false := by simp; omega
        have g0 : 0 ≤ left - (n0 : Int) := by omega
        have S0 := Aside0.mk s0; clear s0
        have s1 : sub (left - (n0 : Int)) n1 = left - (n0 : Int) - (n1 : Int) := by unfold sub; rw [if_neg (by omega)]
        have d1 : decide (left - (n0 : Int) - (n1 : Int) < 0) = false := by simp; omega
        have g1 : 0 ≤ left - (n0 : Int) - (n1 : Int) := by omega
        have S1 := Aside0.mk s1; clear s1
        have s2 : sub (left - (n0 : Int) - (n1 : Int)) n2 = left - (n0 : Int) - (n1 : Int) - (n2 : Int) := by unfold sub; rw [if_neg (by omega)]
        have d2 : decide (left - (n0 : Int) - (n1 : Int) - (n2 : Int) < 0) = false := by simp; omega
        have g2 : 0 ≤ left - (n0 : Int) - (n1 : Int) - (n2 : Int) := by omega
        have S2 := Aside0.mk s2; clear s2
        go_enter Try.func91, Try.ntmps91
        go_wp2_with fail
        refine (szCapS _ _ _ (left) _ (A0.out.reads pG2.out) (by omega) (by omega)).mono ?_
        rintro e w1 ⟨rfl, hb0⟩
        rw [show sizeCapS x.caps = n0 from (by have := HN.out; omega), S0.out]
        have A1 := Aside0.mk (A0.out.step (hb0.below)); clear A0 hb0; have z0 := A1.out.cell0
        go_wp2_with fail
        refine (szInsS _ _ _ (left - (n0 : Int)) _ (A1.out.reads pG3.out) (by omega) (by omega)).mono ?_
        rintro e w2 ⟨rfl, hb0⟩
        rw [show sizeInsS x.code = n1 from (by have := HN.out; omega), S1.out]
        have A2 := Aside0.mk (A1.out.step (hb0.below)); clear A1 hb0 z0; have z0 := A2.out.cell0
        go_wp2_with fail
        refine (szHandlerS _ _ _ (left - (n0 : Int) - (n1 : Int)) _ (A2.out.reads pG4.out) (by omega) (by omega)).mono ?_
        rintro e w3 ⟨rfl, hb0⟩
        rw [show sizeHandlerS x.handlers = n2 from (by have := HN.out; omega), S2.out]
        have A3 := Aside0.mk (A2.out.step (hb0.below)); clear A2 hb0 z0; have z0 := A3.out.cell0
        go_wp2
        go_ret
        exact ⟨rfl, A3.out.below⟩
def sizeConstS (l : List Const) : Nat := l.length + (l.map sizeConst).sum
theorem sizeConstS_take (l : List Const) (j : Nat) (h : j < l.length) : ((l.take (j + 1)).map sizeConst).sum = ((l.take j).map sizeConst).sum + sizeConst (el zConst l j) := by
  rw [List.take_succ_eq_append_getElem h, List.map_append, List.sum_append, el_lt zConst h]
  simp
theorem sizeConstS_le (l : List Const) (j : Nat) : ((l.take j).map sizeConst).sum ≤ (l.map sizeConst).sum := by
  have h : ((l.take j ++ l.drop j).map sizeConst).sum = (l.map sizeConst).sum := by rw [List.take_append_drop]
  rw [List.map_append, List.sum_append] at h
  omega
set_option maxHeartbeats 4000000 in
set_option maxRecDepth 100000 in
theorem szConstS (A : Option Addr) (c : Nat) (l : List Const) (left : Int) (w : World) (hr : kConst.C w A l.length l) (hgood : ∀ y ∈ l, GoodConst y) (h0 : 0 ≤ left) (h1 : left ≤ 1048576) :
    Calls Try.prog 50 #[.slice A l.length c, .int .i64 left] w fun e w' => e = .returned (.int .i64 (sub left (sizeConstS l))) ∧ Below w.heap.size w w' := by
  have hL : l.length ≤ 9223372036854775807 := hr.2.1
  have HR := Aside0.mk hr; have HG := Aside0.mk hgood; clear hr hgood
  by_cases h : left < (l.length : Int)
  · have hfin : sub left (sizeConstS l) = -1 := by unfold sub sizeConstS; rw [if_pos (by omega)]
    rw [hfin]; clear hfin
    have d1 : decide (left - (l.length : Int) < 0) = true := by simp; omega
    have d2 : decide (left < (l.length : Int)) = true := by simp; omega
    go_enter Try.func50, Try.ntmps50
    go_wp2
    go_ret
    exact ⟨rfl, Below.refl _ _⟩
  · have d1 : decide (left - (l.length : Int) < 0) = false := by simp; omega
    have d2 : decide (left < (l.length : Int)) = false := by simp; omega
    go_enter Try.func50, Try.ntmps50
    go_wp2
    go_loopw [1, 5] (fun u v wr => ∃ (j : Nat) (r : Int), v = .int .i64 j ∧ u = .int .i64 r ∧ j ≤ l.length ∧ 0 ≤ r ∧ r ≤ 1048576 ∧ Aside0 (r = left - (l.length : Int) - (((l.take j).map sizeConst).sum : Nat)) ∧ Aside0 (Below w.heap.size w wr)) (fun _ v _ => l.length - (intOf v).toNat)
    case atStart => exact ⟨0, left - (l.length : Int), rfl, rfl, by omega, by omega, by omega, ⟨by simp⟩, ⟨Below.refl _ _⟩⟩
    case round =>
      obtain ⟨j, r, rfl, rfl, hj, hr0, hr1, HE, HW⟩ := hrel
      by_cases hlt : j < l.length
      · obtain ⟨pa, rfl, pK, px0, px1, px2⟩ := Const_at (Kd.C_below HR.out HW.out) j hlt
        have pK2 := Aside0.mk pK; clear pK
        have HGj := Aside0.mk (HG.out _ (el_mem zConst hlt))
        have i1 : (0 : Int) ≤ (j : Int) := by omega
        have i2 : (j : Int) < (l.length : Int) := by omega
        have HT := Aside0.mk (sizeConstS_take l j hlt); have HM := Aside0.mk (sizeConstS_le l (j + 1))
        obtain ⟨m, hm⟩ : ∃ m, m = sizeConst (el zConst l j) := ⟨_, rfl⟩
        have HMM := Aside0.mk hm; clear hm
        by_cases c0 : r < (m : Int)
        · have s0 : sub r m = -1 := by unfold sub; rw [if_pos c0]
          have hfin : sub left (sizeConstS l) = -1 := by unfold sub sizeConstS; rw [if_pos (by have := HE.out; have := HT.out; have := HM.out; have := HMM.out; omega)]
          have HF := Aside0.mk hfin; clear hfin
          have S0 := Aside0.mk s0; clear s0
          go_wp2_with fail
          refine (szConst (el zConst l j) _ r _ pK2.out HGj.out hr0 hr1).mono ?_
          rintro e w1 ⟨rfl, hb⟩
          rw [← HMM.out, S0.out]
          go_wp2
          go_ret
          exact ⟨by rw [HF.out]; rfl, below_step HW.out hb⟩
        · have s0 : sub r m = r - m := by unfold sub; rw [if_neg c0]
          have d3 : decide (r - (m : Int) < 0) = false := by simp; omega
          have g3 : 0 ≤ r - (m : Int) := by omega
          have S0 := Aside0.mk s0; clear s0
          go_wp2_with fail
          refine (szConst (el zConst l j) _ r _ pK2.out HGj.out hr0 hr1).mono ?_
          rintro e w1 ⟨rfl, hb⟩
          rw [← HMM.out, S0.out]
          go_wp2
          go_roundw
          case rel => exact ⟨j + 1, r - (m : Int), by go_num, rfl, by omega, by omega, by omega, ⟨by have := HE.out; have := HT.out; have := HMM.out; omega⟩, ⟨below_step HW.out hb⟩⟩
          case measure => simp [intOf]; omega
      · have hjl : j = l.length := by omega
        have hfin : sub left (sizeConstS l) = r := by have h := HE.out; rw [hjl, List.take_length] at h; unfold sub sizeConstS; rw [if_neg (by omega)]; omega
        have HF := Aside0.mk hfin; clear hfin hjl
        go_wp2
        go_ret
        exact ⟨by rw [HF.out]; rfl, HW.out⟩
def sizeFuncS (l : List Func) : Nat := l.length + (l.map sizeFunc).sum
theorem sizeFuncS_take (l : List Func) (j : Nat) (h : j < l.length) : ((l.take (j + 1)).map sizeFunc).sum = ((l.take j).map sizeFunc).sum + sizeFunc (el zFunc l j) := by
  rw [List.take_succ_eq_append_getElem h, List.map_append, List.sum_append, el_lt zFunc h]
  simp
theorem sizeFuncS_le (l : List Func) (j : Nat) : ((l.take j).map sizeFunc).sum ≤ (l.map sizeFunc).sum := by
  have h : ((l.take j ++ l.drop j).map sizeFunc).sum = (l.map sizeFunc).sum := by rw [List.take_append_drop]
  rw [List.map_append, List.sum_append] at h
  omega
set_option maxHeartbeats 4000000 in
set_option maxRecDepth 100000 in
theorem szFuncS (A : Option Addr) (c : Nat) (l : List Func) (left : Int) (w : World) (hr : kFuncL.C w A l.length l) (hgood : ∀ y ∈ l, GoodFunc y) (h0 : 0 ≤ left) (h1 : left ≤ 1048576) :
    Calls Try.prog 49 #[.slice A l.length c, .int .i64 left] w fun e w' => e = .returned (.int .i64 (sub left (sizeFuncS l))) ∧ Below w.heap.size w w' := by
  have hL : l.length ≤ 9223372036854775807 := hr.2.1
  have HR := Aside0.mk hr; have HG := Aside0.mk hgood; clear hr hgood
  by_cases h : left < (l.length : Int)
  · have hfin : sub left (sizeFuncS l) = -1 := by unfold sub sizeFuncS; rw [if_pos (by omega)]
    rw [hfin]; clear hfin
    have d1 : decide (left - (l.length : Int) < 0) = true := by simp; omega
    have d2 : decide (left < (l.length : Int)) = true := by simp; omega
    go_enter Try.func49, Try.ntmps49
    go_wp2
    go_ret
    exact ⟨rfl, Below.refl _ _⟩
  · have d1 : decide (left - (l.length : Int) < 0) = false := by simp; omega
    have d2 : decide (left < (l.length : Int)) = false := by simp; omega
    go_enter Try.func49, Try.ntmps49
    go_wp2
    go_loopw [1, 5] (fun u v wr => ∃ (j : Nat) (r : Int), v = .int .i64 j ∧ u = .int .i64 r ∧ j ≤ l.length ∧ 0 ≤ r ∧ r ≤ 1048576 ∧ Aside0 (r = left - (l.length : Int) - (((l.take j).map sizeFunc).sum : Nat)) ∧ Aside0 (Below w.heap.size w wr)) (fun _ v _ => l.length - (intOf v).toNat)
    case atStart => exact ⟨0, left - (l.length : Int), rfl, rfl, by omega, by omega, by omega, ⟨by simp⟩, ⟨Below.refl _ _⟩⟩
    case round =>
      obtain ⟨j, r, rfl, rfl, hj, hr0, hr1, HE, HW⟩ := hrel
      by_cases hlt : j < l.length
      · obtain ⟨pa, pA2, pc2, pA3, pc3, pA4, pc4, rfl, pK, px0, px1, px2, px3, px4⟩ := FuncL_at (Kd.C_below HR.out HW.out) j hlt
        have pK2 := Aside0.mk pK; clear pK
        have HGj := Aside0.mk (HG.out _ (el_mem zFunc hlt))
        have i1 : (0 : Int) ≤ (j : Int) := by omega
        have i2 : (j : Int) < (l.length : Int) := by omega
        have HT := Aside0.mk (sizeFuncS_take l j hlt); have HM := Aside0.mk (sizeFuncS_le l (j + 1))
        obtain ⟨m, hm⟩ : ∃ m, m = sizeFunc (el zFunc l j) := ⟨_, rfl⟩
        have HMM := Aside0.mk hm; clear hm
        by_cases c0 : r < (m : Int)
        · have s0 : sub r m = -1 := by unfold sub; rw [if_pos c0]
          have hfin : sub left (sizeFuncS l) = -1 := by unfold sub sizeFuncS; rw [if_pos (by have := HE.out; have := HT.out; have := HM.out; have := HMM.out; omega)]
          have HF := Aside0.mk hfin; clear hfin
          have S0 := Aside0.mk s0; clear s0
          go_wp2_with fail
          refine (szFunc (el zFunc l j) _ r _ pK2.out HGj.out hr0 hr1).mono ?_
          rintro e w1 ⟨rfl, hb⟩
          rw [← HMM.out, S0.out]
          go_wp2
          go_ret
          exact ⟨by rw [HF.out]; rfl, below_step HW.out hb⟩
        · have s0 : sub r m = r - m := by unfold sub; rw [if_neg c0]
          have d3 : decide (r - (m : Int) < 0) = false := by simp; omega
          have g3 : 0 ≤ r - (m : Int) := by omega
          have S0 := Aside0.mk s0; clear s0
          go_wp2_with fail
          refine (szFunc (el zFunc l j) _ r _ pK2.out HGj.out hr0 hr1).mono ?_
          rintro e w1 ⟨rfl, hb⟩
          rw [← HMM.out, S0.out]
          go_wp2
          go_roundw
          case rel => exact ⟨j + 1, r - (m : Int), by go_num, rfl, by omega, by omega, by omega, ⟨by have := HE.out; have := HT.out; have := HMM.out; omega⟩, ⟨below_step HW.out hb⟩⟩
          case measure => simp [intOf]; omega
      · have hjl : j = l.length := by omega
        have hfin : sub left (sizeFuncS l) = r := by have h := HE.out; rw [hjl, List.take_length] at h; unfold sub sizeFuncS; rw [if_neg (by omega)]; omega
        have HF := Aside0.mk hfin; clear hfin hjl
        go_wp2
        go_ret
        exact ⟨by rw [HF.out]; rfl, HW.out⟩
def sizeImage (x : Image) : Nat := sizeFuncS x.funcs + sizeConstS x.consts
def GoodImage (x : Image) : Prop := (∀ y ∈ x.funcs, GoodFunc y) ∧ (∀ y ∈ x.consts, GoodConst y)
set_option maxHeartbeats 4000000 in
set_option maxRecDepth 100000 in
theorem szImage (x : Image) (cs : List Value) (left : Int) (w : World) (hk : kImageL.K w x cs) (hgood : GoodImage x) (h0 : 0 ≤ left) (h1 : left ≤ 1048576) :
    Calls Try.prog 12 #[.agg ⟨cs⟩, .int .i64 left] w fun e w' => e = .returned (.int .i64 (sub left (sizeImage x))) ∧ Below w.heap.size w w' := by
  obtain ⟨pA0, pc0, pA1, pc1, rfl, pl0, pg0, pl1, pg1⟩ := kImageL_open hk
  have pG0 := Aside0.mk pg0; clear pg0 pl0
  have pG1 := Aside0.mk pg1; clear pg1 pl1
  clear hk
  have hu := Try.underlying25
  unfold GoodImage at hgood
  have HG := Aside0.mk hgood
  have A0 := Aside0.mk ((At.start w).alloc #[.slice pA0 x.funcs.length pc0, .slice pA1 x.consts.length pc1] 25)
  obtain ⟨n0, hn0⟩ : ∃ q, q = sizeFuncS x.funcs := ⟨_, rfl⟩
  obtain ⟨n1, hn1⟩ : ∃ q, q = sizeConstS x.consts := ⟨_, rfl⟩
  have HN := Aside0.mk (show n0 = sizeFuncS x.funcs ∧ n1 = sizeConstS x.consts from ⟨hn0, hn1⟩)
  clear hn0
  clear hn1
  clear hgood
  have hsize : sizeImage x = n0 + n1 := by unfold sizeImage; have h := HN.out; omega
  rw [hsize]; have HSZ := Aside0.mk hsize; clear hsize
  by_cases c0 : left < (n0 : Int)
  · skip
    have hfin : sub left (n0 + n1) = -1 := by unfold sub; rw [if_pos (by omega)]
    rw [hfin]; clear hfin
    have s0 : sub (left) n0 = -1 := by unfold sub; rw [if_pos (by omega)]
    have S0 := Aside0.mk s0; clear s0
    go_enter Try.func12, Try.ntmps12
    go_wp2_with fail
    refine (szFuncS _ _ _ (left) _ (A0.out.reads pG0.out) (HG.out.1) (by omega) (by omega)).mono ?_
    rintro e w1 ⟨rfl, hb0⟩
    rw [show sizeFuncS x.funcs = n0 from (by have := HN.out; omega), S0.out]
    have A1 := Aside0.mk (A0.out.step (hb0)); clear A0 hb0; have z0 := A1.out.cell0
    go_wp2
    go_ret
    exact ⟨rfl, A1.out.below⟩
  · skip
    by_cases c1 : left - (n0 : Int) < (n1 : Int)
    · skip
      have hfin : sub left (n0 + n1) = -1 := by unfold sub; rw [if_pos (by omega)]
      rw [hfin]; clear hfin
      have s0 : sub (left) n0 = left - (n0 : Int) := by unfold sub; rw [if_neg (by omega)]
      have d0 : decide (left - (n0 : Int) < 0) = false := by simp; omega
      have g0 : 0 ≤ left - (n0 : Int) := by omega
      have S0 := Aside0.mk s0; clear s0
      have s1 : sub (left - (n0 : Int)) n1 = -1 := by unfold sub; rw [if_pos (by omega)]
      have S1 := Aside0.mk s1; clear s1
      go_enter Try.func12, Try.ntmps12
      go_wp2_with fail
      refine (szFuncS _ _ _ (left) _ (A0.out.reads pG0.out) (HG.out.1) (by omega) (by omega)).mono ?_
      rintro e w1 ⟨rfl, hb0⟩
      rw [show sizeFuncS x.funcs = n0 from (by have := HN.out; omega), S0.out]
      have A1 := Aside0.mk (A0.out.step (hb0)); clear A0 hb0; have z0 := A1.out.cell0
      go_wp2_with fail
      refine (szConstS _ _ _ (left - (n0 : Int)) _ (A1.out.reads pG1.out) (HG.out.2) (by omega) (by omega)).mono ?_
      rintro e w2 ⟨rfl, hb0⟩
      rw [show sizeConstS x.consts = n1 from (by have := HN.out; omega), S1.out]
      have A2 := Aside0.mk (A1.out.step (hb0)); clear A1 hb0 z0; have z0 := A2.out.cell0
      go_wp2
      go_ret
      exact ⟨rfl, A2.out.below⟩
    · skip
      have hfin : sub left (n0 + n1) = left - n0 - n1 := by unfold sub; rw [if_neg (by omega)] <;> omega
      rw [hfin]; clear hfin
      have s0 : sub (left) n0 = left - (n0 : Int) := by unfold sub; rw [if_neg (by omega)]
      have d0 : decide (left - (n0 : Int) < 0) = false := by simp; omega
      have g0 : 0 ≤ left - (n0 : Int) := by omega
      have S0 := Aside0.mk s0; clear s0
      have s1 : sub (left - (n0 : Int)) n1 = left - (n0 : Int) - (n1 : Int) := by unfold sub; rw [if_neg (by omega)]
      have d1 : decide (left - (n0 : Int) - (n1 : Int) < 0) = false := by simp; omega
      have g1 : 0 ≤ left - (n0 : Int) - (n1 : Int) := by omega
      have S1 := Aside0.mk s1; clear s1
      go_enter Try.func12, Try.ntmps12
      go_wp2_with fail
      refine (szFuncS _ _ _ (left) _ (A0.out.reads pG0.out) (HG.out.1) (by omega) (by omega)).mono ?_
      rintro e w1 ⟨rfl, hb0⟩
      rw [show sizeFuncS x.funcs = n0 from (by have := HN.out; omega), S0.out]
      have A1 := Aside0.mk (A0.out.step (hb0)); clear A0 hb0; have z0 := A1.out.cell0
      go_wp2_with fail
      refine (szConstS _ _ _ (left - (n0 : Int)) _ (A1.out.reads pG1.out) (HG.out.2) (by omega) (by omega)).mono ?_
      rintro e w2 ⟨rfl, hb0⟩
      rw [show sizeConstS x.consts = n1 from (by have := HN.out; omega), S1.out]
      have A2 := Aside0.mk (A1.out.step (hb0)); clear A1 hb0 z0; have z0 := A2.out.cell0
      go_wp2
      go_ret
      exact ⟨rfl, A2.out.below⟩
end Go.Proofs.Ytcbaokflimdjnaa
end
section
namespace Go.Proofs.Ytcbaokflimdjnaa
open Go.RowKit Go.Proofs.YtcbaokflimdjnaaW.PrintWords Go.Proofs.YtcbaokflimdjnaaW.PrintMore Go.Proofs.Ytcbaokflimdjnaa.Law Go.Proofs.Ytcbaokflimdjnaa.Num
set_option linter.unusedVariables false
set_option linter.unusedSimpArgs false
set_option maxHeartbeats 4000000 in
set_option maxRecDepth 100000 in
theorem eqIns (x y : Ins) (cs ds : List Value) (w : World) (hk : kIns.K w x cs) (hk2 : kIns.K w y ds) :
    Calls Try.prog 166 #[.agg ⟨cs⟩, .agg ⟨ds⟩] w fun e w' => e = .returned (.bool (decide (x = y))) ∧ Below w.heap.size w w' := by
  have ecs := kIns_open hk
  subst ecs
  have eds := kIns_open hk2
  subst eds
  clear hk hk2
  have hu := Try.underlying76
  by_cases h0 : x.op = y.op
  · skip
    have b0 : (x.op == y.op) = true := beq_iff_eq.mpr h0
    have d0 : (x.op != y.op) = false := bne_eq_false_iff_eq.mpr h0
    by_cases h1 : x.a = y.a
    · skip
      have b1 : (x.a == y.a) = true := beq_iff_eq.mpr h1
      have d1 : (x.a != y.a) = false := bne_eq_false_iff_eq.mpr h1
      by_cases h2 : x.b = y.b
      · skip
        have b2 : (x.b == y.b) = true := beq_iff_eq.mpr h2
        have d2 : (x.b != y.b) = false := bne_eq_false_iff_eq.mpr h2
        have hfin : decide (x = y) = true := decide_eq_true (by cases x; cases y; simp_all)
        have HF := Aside0.mk hfin
        clear hfin
        clear h0
        clear h1
        clear h2
        go_enter Try.func166, Try.ntmps166
        go_wp2
        go_ret
        exact ⟨by rw [HF.out]; rfl, by repeat (first | exact Below.refl _ _ | apply below_alloc | apply below_drew1 | apply pw_below_drewN | assumption)⟩
      · skip
        have b2 : (x.b == y.b) = false := beq_eq_false_iff_ne.mpr h2
        have d2 : (x.b != y.b) = true := bne_iff_ne.mpr h2
        have hfin : decide (x = y) = false := decide_eq_false (fun e => h2 (by rw [e]))
        have HF := Aside0.mk hfin
        clear hfin
        clear h0
        clear h1
        clear h2
        go_enter Try.func166, Try.ntmps166
        go_wp2
        go_ret
        exact ⟨by rw [HF.out]; rfl, by repeat (first | exact Below.refl _ _ | apply below_alloc | apply below_drew1 | apply pw_below_drewN | assumption)⟩
    · skip
      have b1 : (x.a == y.a) = false := beq_eq_false_iff_ne.mpr h1
      have d1 : (x.a != y.a) = true := bne_iff_ne.mpr h1
      have hfin : decide (x = y) = false := decide_eq_false (fun e => h1 (by rw [e]))
      have HF := Aside0.mk hfin
      clear hfin
      clear h0
      clear h1
      go_enter Try.func166, Try.ntmps166
      go_wp2
      go_ret
      exact ⟨by rw [HF.out]; rfl, by repeat (first | exact Below.refl _ _ | apply below_alloc | apply below_drew1 | apply pw_below_drewN | assumption)⟩
  · skip
    have b0 : (x.op == y.op) = false := beq_eq_false_iff_ne.mpr h0
    have d0 : (x.op != y.op) = true := bne_iff_ne.mpr h0
    have hfin : decide (x = y) = false := decide_eq_false (fun e => h0 (by rw [e]))
    have HF := Aside0.mk hfin
    clear hfin
    clear h0
    go_enter Try.func166, Try.ntmps166
    go_wp2
    go_ret
    exact ⟨by rw [HF.out]; rfl, by repeat (first | exact Below.refl _ _ | apply below_alloc | apply below_drew1 | apply pw_below_drewN | assumption)⟩
set_option maxHeartbeats 4000000 in
set_option maxRecDepth 100000 in
theorem eqInsS (A B : Option Addr) (c d : Nat) (l m : List Ins) (w : World) (hr : kIns.C w A l.length l) (hr2 : kIns.C w B m.length m) :
    Calls Try.prog 140 #[.slice A l.length c, .slice B m.length d] w fun e w' => e = .returned (.bool (decide (l = m))) ∧ Below w.heap.size w w' := by
  have hL : l.length ≤ 9223372036854775807 := hr.2.1
  by_cases hlen : l.length = m.length
  · have b1 : ((l.length : Int) != (m.length : Int)) = false := by simp [hlen]
    have HR := Aside0.mk hr; have HR2 := Aside0.mk hr2; have HL := Aside0.mk hlen
    clear hr hr2 hlen
    go_enter Try.func140, Try.ntmps140
    go_wp2
    go_loopw [5] (fun v wr => ∃ j : Nat, v = .int .i64 j ∧ j ≤ l.length ∧ Aside0 (∀ i : Nat, i < j → el zIns l i = el zIns m i) ∧ Aside0 (Below w.heap.size w wr)) (fun v _ => l.length - (intOf v).toNat)
    case atStart => exact ⟨0, rfl, by omega, ⟨fun i hi => by omega⟩, ⟨Below.refl _ _⟩⟩
    case round =>
      obtain ⟨j, rfl, hj, HE, HW⟩ := hrel
      by_cases hlt : j < l.length
      · obtain ⟨pa, rfl, pK, px0, px1, px2⟩ := Ins_at (Kd.C_below HR.out HW.out) j hlt
        have pK2 := Aside0.mk pK; clear pK
        obtain ⟨qa, rfl, qK, qx0, qx1, qx2⟩ := Ins_at (Kd.C_below HR2.out HW.out) j (by have := HL.out; omega)
        have qK2 := Aside0.mk qK; clear qK
        have i1 : (0 : Int) ≤ (j : Int) := by omega
        have i2 : (j : Int) < (l.length : Int) := by omega
        have i3 : (j : Int) < (m.length : Int) := by have := HL.out; omega
        by_cases he : el zIns l j = el zIns m j
        · have b2 : decide (el zIns l j = el zIns m j) = true := decide_eq_true he
          have HE2 := Aside0.mk he
          clear he
          go_wp2
          have HS : Aside0 (∀ W : World, Below wr.heap.size wr W → W.cell? (pa.add (j * 3)) = some (.int .i64 (el zIns l j).op) ∧ W.cell? ⟨(pa.add (j * 3)).block, (pa.add (j * 3)).off + 1, none⟩ = some (.int .i64 (el zIns l j).a) ∧ W.cell? ⟨(pa.add (j * 3)).block, (pa.add (j * 3)).off + 2, none⟩ = some (.int .i64 (el zIns l j).b) ∧ W.cell? (qa.add (j * 3)) = some (.int .i64 (el zIns m j).op) ∧ W.cell? ⟨(qa.add (j * 3)).block, (qa.add (j * 3)).off + 1, none⟩ = some (.int .i64 (el zIns m j).a) ∧ W.cell? ⟨(qa.add (j * 3)).block, (qa.add (j * 3)).off + 2, none⟩ = some (.int .i64 (el zIns m j).b)) := ⟨fun W hB => ⟨pw_cell_below hB px0, pw_cell_below hB px1, pw_cell_below hB px2, pw_cell_below hB qx0, pw_cell_below hB qx1, pw_cell_below hB qx2⟩⟩
          go_region_held3 (fun W => W.cell? (pa.add (j * 3)) = some (.int .i64 (el zIns l j).op) ∧ W.cell? ⟨(pa.add (j * 3)).block, (pa.add (j * 3)).off + 1, none⟩ = some (.int .i64 (el zIns l j).a) ∧ W.cell? ⟨(pa.add (j * 3)).block, (pa.add (j * 3)).off + 2, none⟩ = some (.int .i64 (el zIns l j).b) ∧ W.cell? (qa.add (j * 3)) = some (.int .i64 (el zIns m j).op) ∧ W.cell? ⟨(qa.add (j * 3)).block, (qa.add (j * 3)).off + 1, none⟩ = some (.int .i64 (el zIns m j).a) ∧ W.cell? ⟨(qa.add (j * 3)).block, (qa.add (j * 3)).off + 2, none⟩ = some (.int .i64 (el zIns m j).b)) (first | exact HS.out _ (below_step (below_drew1 (Below.refl _ _)) hb) | exact HS.out _ (below_drew1 (Below.refl _ _))) (first | (go_at_call 166; refine (eqIns (el zIns l j) (el zIns m j) _ _ _ ?s1 ?s2).mono ?_; (case s1 => exact Kd.K_drew0 pK2.out); (case s2 => exact Kd.K_drew0 qK2.out); rintro e w1 ⟨rfl, hb⟩))
          go_wp2
          go_roundw
          case rel => exact ⟨j + 1, by go_num, by omega, ⟨fun i hi => by rcases Nat.lt_succ_iff_lt_or_eq.1 hi with h | h; exact HE.out i h; rw [h]; exact HE2.out⟩, ⟨below_step (below_drew1 HW.out) hb⟩⟩
          case measure => simp [intOf]; omega
        · have b2 : decide (el zIns l j = el zIns m j) = false := decide_eq_false he
          have HE2 := Aside0.mk he
          clear he
          go_wp2
          have HS : Aside0 (∀ W : World, Below wr.heap.size wr W → W.cell? (pa.add (j * 3)) = some (.int .i64 (el zIns l j).op) ∧ W.cell? ⟨(pa.add (j * 3)).block, (pa.add (j * 3)).off + 1, none⟩ = some (.int .i64 (el zIns l j).a) ∧ W.cell? ⟨(pa.add (j * 3)).block, (pa.add (j * 3)).off + 2, none⟩ = some (.int .i64 (el zIns l j).b) ∧ W.cell? (qa.add (j * 3)) = some (.int .i64 (el zIns m j).op) ∧ W.cell? ⟨(qa.add (j * 3)).block, (qa.add (j * 3)).off + 1, none⟩ = some (.int .i64 (el zIns m j).a) ∧ W.cell? ⟨(qa.add (j * 3)).block, (qa.add (j * 3)).off + 2, none⟩ = some (.int .i64 (el zIns m j).b)) := ⟨fun W hB => ⟨pw_cell_below hB px0, pw_cell_below hB px1, pw_cell_below hB px2, pw_cell_below hB qx0, pw_cell_below hB qx1, pw_cell_below hB qx2⟩⟩
          go_region_held3 (fun W => W.cell? (pa.add (j * 3)) = some (.int .i64 (el zIns l j).op) ∧ W.cell? ⟨(pa.add (j * 3)).block, (pa.add (j * 3)).off + 1, none⟩ = some (.int .i64 (el zIns l j).a) ∧ W.cell? ⟨(pa.add (j * 3)).block, (pa.add (j * 3)).off + 2, none⟩ = some (.int .i64 (el zIns l j).b) ∧ W.cell? (qa.add (j * 3)) = some (.int .i64 (el zIns m j).op) ∧ W.cell? ⟨(qa.add (j * 3)).block, (qa.add (j * 3)).off + 1, none⟩ = some (.int .i64 (el zIns m j).a) ∧ W.cell? ⟨(qa.add (j * 3)).block, (qa.add (j * 3)).off + 2, none⟩ = some (.int .i64 (el zIns m j).b)) (first | exact HS.out _ (below_step (below_drew1 (Below.refl _ _)) hb) | exact HS.out _ (below_drew1 (Below.refl _ _))) (first | (go_at_call 166; refine (eqIns (el zIns l j) (el zIns m j) _ _ _ ?s1 ?s2).mono ?_; (case s1 => exact Kd.K_drew0 pK2.out); (case s2 => exact Kd.K_drew0 qK2.out); rintro e w1 ⟨rfl, hb⟩))
          go_wp2
          go_ret
          exact ⟨by rw [decide_eq_false (fun h => HE2.out (by rw [h]))]; rfl, below_step (below_drew1 HW.out) hb⟩
      · go_wp2
        go_ret
        exact ⟨by rw [decide_eq_true (el_ext zIns HL.out (fun i hi => HE.out i (by omega)))]; rfl, HW.out⟩
  · have b1 : ((l.length : Int) != (m.length : Int)) = true := by simp; omega
    have HL := Aside0.mk hlen
    clear hr hr2 hlen
    go_enter Try.func140, Try.ntmps140
    go_wp2
    go_ret
    exact ⟨by rw [decide_eq_false (fun h => HL.out (by rw [h]))]; rfl, Below.refl _ _⟩
set_option maxHeartbeats 4000000 in
set_option maxRecDepth 100000 in
theorem eqCap (x y : Cap) (cs ds : List Value) (w : World) (hk : kCap.K w x cs) (hk2 : kCap.K w y ds) :
    Calls Try.prog 165 #[.agg ⟨cs⟩, .agg ⟨ds⟩] w fun e w' => e = .returned (.bool (decide (x = y))) ∧ Below w.heap.size w w' := by
  have ecs := kCap_open hk
  subst ecs
  have eds := kCap_open hk2
  subst eds
  clear hk hk2
  have hu := Try.underlying105
  by_cases h0 : x.reg = y.reg
  · skip
    have b0 : (x.reg == y.reg) = true := beq_iff_eq.mpr h0
    have d0 : (x.reg != y.reg) = false := bne_eq_false_iff_eq.mpr h0
    by_cases h1 : x.index = y.index
    · skip
      have b1 : (x.index == y.index) = true := beq_iff_eq.mpr h1
      have d1 : (x.index != y.index) = false := bne_eq_false_iff_eq.mpr h1
      have hfin : decide (x = y) = true := decide_eq_true (by cases x; cases y; simp_all)
      have HF := Aside0.mk hfin
      clear hfin
      clear h0
      clear h1
      go_enter Try.func165, Try.ntmps165
      go_wp2
      go_ret
      exact ⟨by rw [HF.out]; rfl, by repeat (first | exact Below.refl _ _ | apply below_alloc | apply below_drew1 | apply pw_below_drewN | assumption)⟩
    · skip
      have b1 : (x.index == y.index) = false := beq_eq_false_iff_ne.mpr h1
      have d1 : (x.index != y.index) = true := bne_iff_ne.mpr h1
      have hfin : decide (x = y) = false := decide_eq_false (fun e => h1 (by rw [e]))
      have HF := Aside0.mk hfin
      clear hfin
      clear h0
      clear h1
      go_enter Try.func165, Try.ntmps165
      go_wp2
      go_ret
      exact ⟨by rw [HF.out]; rfl, by repeat (first | exact Below.refl _ _ | apply below_alloc | apply below_drew1 | apply pw_below_drewN | assumption)⟩
  · skip
    have b0 : (x.reg == y.reg) = false := beq_eq_false_iff_ne.mpr h0
    have d0 : (x.reg != y.reg) = true := bne_iff_ne.mpr h0
    have hfin : decide (x = y) = false := decide_eq_false (fun e => h0 (by rw [e]))
    have HF := Aside0.mk hfin
    clear hfin
    clear h0
    go_enter Try.func165, Try.ntmps165
    go_wp2
    go_ret
    exact ⟨by rw [HF.out]; rfl, by repeat (first | exact Below.refl _ _ | apply below_alloc | apply below_drew1 | apply pw_below_drewN | assumption)⟩
set_option maxHeartbeats 4000000 in
set_option maxRecDepth 100000 in
theorem eqCapS (A B : Option Addr) (c d : Nat) (l m : List Cap) (w : World) (hr : kCap.C w A l.length l) (hr2 : kCap.C w B m.length m) :
    Calls Try.prog 139 #[.slice A l.length c, .slice B m.length d] w fun e w' => e = .returned (.bool (decide (l = m))) ∧ Below w.heap.size w w' := by
  have hL : l.length ≤ 9223372036854775807 := hr.2.1
  by_cases hlen : l.length = m.length
  · have b1 : ((l.length : Int) != (m.length : Int)) = false := by simp [hlen]
    have HR := Aside0.mk hr; have HR2 := Aside0.mk hr2; have HL := Aside0.mk hlen
    clear hr hr2 hlen
    go_enter Try.func139, Try.ntmps139
    go_wp2
    go_loopw [5] (fun v wr => ∃ j : Nat, v = .int .i64 j ∧ j ≤ l.length ∧ Aside0 (∀ i : Nat, i < j → el zCap l i = el zCap m i) ∧ Aside0 (Below w.heap.size w wr)) (fun v _ => l.length - (intOf v).toNat)
    case atStart => exact ⟨0, rfl, by omega, ⟨fun i hi => by omega⟩, ⟨Below.refl _ _⟩⟩
    case round =>
      obtain ⟨j, rfl, hj, HE, HW⟩ := hrel
      by_cases hlt : j < l.length
      · obtain ⟨pa, rfl, pK, px0, px1⟩ := Cap_at (Kd.C_below HR.out HW.out) j hlt
        have pK2 := Aside0.mk pK; clear pK
        obtain ⟨qa, rfl, qK, qx0, qx1⟩ := Cap_at (Kd.C_below HR2.out HW.out) j (by have := HL.out; omega)
        have qK2 := Aside0.mk qK; clear qK
        have i1 : (0 : Int) ≤ (j : Int) := by omega
        have i2 : (j : Int) < (l.length : Int) := by omega
        have i3 : (j : Int) < (m.length : Int) := by have := HL.out; omega
        by_cases he : el zCap l j = el zCap m j
        · have b2 : decide (el zCap l j = el zCap m j) = true := decide_eq_true he
          have HE2 := Aside0.mk he
          clear he
          go_wp2
          have HS : Aside0 (∀ W : World, Below wr.heap.size wr W → W.cell? (pa.add (j * 2)) = some (.bool (el zCap l j).reg) ∧ W.cell? ⟨(pa.add (j * 2)).block, (pa.add (j * 2)).off + 1, none⟩ = some (.int .i64 (el zCap l j).index) ∧ W.cell? (qa.add (j * 2)) = some (.bool (el zCap m j).reg) ∧ W.cell? ⟨(qa.add (j * 2)).block, (qa.add (j * 2)).off + 1, none⟩ = some (.int .i64 (el zCap m j).index)) := ⟨fun W hB => ⟨pw_cell_below hB px0, pw_cell_below hB px1, pw_cell_below hB qx0, pw_cell_below hB qx1⟩⟩
          go_region_held3 (fun W => W.cell? (pa.add (j * 2)) = some (.bool (el zCap l j).reg) ∧ W.cell? ⟨(pa.add (j * 2)).block, (pa.add (j * 2)).off + 1, none⟩ = some (.int .i64 (el zCap l j).index) ∧ W.cell? (qa.add (j * 2)) = some (.bool (el zCap m j).reg) ∧ W.cell? ⟨(qa.add (j * 2)).block, (qa.add (j * 2)).off + 1, none⟩ = some (.int .i64 (el zCap m j).index)) (first | exact HS.out _ (below_step (below_drew1 (Below.refl _ _)) hb) | exact HS.out _ (below_drew1 (Below.refl _ _))) (first | (go_at_call 165; refine (eqCap (el zCap l j) (el zCap m j) _ _ _ ?s1 ?s2).mono ?_; (case s1 => exact Kd.K_drew0 pK2.out); (case s2 => exact Kd.K_drew0 qK2.out); rintro e w1 ⟨rfl, hb⟩))
          go_wp2
          go_roundw
          case rel => exact ⟨j + 1, by go_num, by omega, ⟨fun i hi => by rcases Nat.lt_succ_iff_lt_or_eq.1 hi with h | h; exact HE.out i h; rw [h]; exact HE2.out⟩, ⟨below_step (below_drew1 HW.out) hb⟩⟩
          case measure => simp [intOf]; omega
        · have b2 : decide (el zCap l j = el zCap m j) = false := decide_eq_false he
          have HE2 := Aside0.mk he
          clear he
          go_wp2
          have HS : Aside0 (∀ W : World, Below wr.heap.size wr W → W.cell? (pa.add (j * 2)) = some (.bool (el zCap l j).reg) ∧ W.cell? ⟨(pa.add (j * 2)).block, (pa.add (j * 2)).off + 1, none⟩ = some (.int .i64 (el zCap l j).index) ∧ W.cell? (qa.add (j * 2)) = some (.bool (el zCap m j).reg) ∧ W.cell? ⟨(qa.add (j * 2)).block, (qa.add (j * 2)).off + 1, none⟩ = some (.int .i64 (el zCap m j).index)) := ⟨fun W hB => ⟨pw_cell_below hB px0, pw_cell_below hB px1, pw_cell_below hB qx0, pw_cell_below hB qx1⟩⟩
          go_region_held3 (fun W => W.cell? (pa.add (j * 2)) = some (.bool (el zCap l j).reg) ∧ W.cell? ⟨(pa.add (j * 2)).block, (pa.add (j * 2)).off + 1, none⟩ = some (.int .i64 (el zCap l j).index) ∧ W.cell? (qa.add (j * 2)) = some (.bool (el zCap m j).reg) ∧ W.cell? ⟨(qa.add (j * 2)).block, (qa.add (j * 2)).off + 1, none⟩ = some (.int .i64 (el zCap m j).index)) (first | exact HS.out _ (below_step (below_drew1 (Below.refl _ _)) hb) | exact HS.out _ (below_drew1 (Below.refl _ _))) (first | (go_at_call 165; refine (eqCap (el zCap l j) (el zCap m j) _ _ _ ?s1 ?s2).mono ?_; (case s1 => exact Kd.K_drew0 pK2.out); (case s2 => exact Kd.K_drew0 qK2.out); rintro e w1 ⟨rfl, hb⟩))
          go_wp2
          go_ret
          exact ⟨by rw [decide_eq_false (fun h => HE2.out (by rw [h]))]; rfl, below_step (below_drew1 HW.out) hb⟩
      · go_wp2
        go_ret
        exact ⟨by rw [decide_eq_true (el_ext zCap HL.out (fun i hi => HE.out i (by omega)))]; rfl, HW.out⟩
  · have b1 : ((l.length : Int) != (m.length : Int)) = true := by simp; omega
    have HL := Aside0.mk hlen
    clear hr hr2 hlen
    go_enter Try.func139, Try.ntmps139
    go_wp2
    go_ret
    exact ⟨by rw [decide_eq_false (fun h => HL.out (by rw [h]))]; rfl, Below.refl _ _⟩
set_option maxHeartbeats 4000000 in
set_option maxRecDepth 100000 in
theorem eqHandler (x y : Handler) (cs ds : List Value) (w : World) (hk : kHandler.K w x cs) (hk2 : kHandler.K w y ds) :
    Calls Try.prog 167 #[.agg ⟨cs⟩, .agg ⟨ds⟩] w fun e w' => e = .returned (.bool (decide (x = y))) ∧ Below w.heap.size w w' := by
  have ecs := kHandler_open hk
  subst ecs
  have eds := kHandler_open hk2
  subst eds
  clear hk hk2
  have hu := Try.underlying107
  by_cases h0 : x.from_ = y.from_
  · skip
    have b0 : (x.from_ == y.from_) = true := beq_iff_eq.mpr h0
    have d0 : (x.from_ != y.from_) = false := bne_eq_false_iff_eq.mpr h0
    by_cases h1 : x.to_ = y.to_
    · skip
      have b1 : (x.to_ == y.to_) = true := beq_iff_eq.mpr h1
      have d1 : (x.to_ != y.to_) = false := bne_eq_false_iff_eq.mpr h1
      by_cases h2 : x.target = y.target
      · skip
        have b2 : (x.target == y.target) = true := beq_iff_eq.mpr h2
        have d2 : (x.target != y.target) = false := bne_eq_false_iff_eq.mpr h2
        have hfin : decide (x = y) = true := decide_eq_true (by cases x; cases y; simp_all)
        have HF := Aside0.mk hfin
        clear hfin
        clear h0
        clear h1
        clear h2
        go_enter Try.func167, Try.ntmps167
        go_wp2
        go_ret
        exact ⟨by rw [HF.out]; rfl, by repeat (first | exact Below.refl _ _ | apply below_alloc | apply below_drew1 | apply pw_below_drewN | assumption)⟩
      · skip
        have b2 : (x.target == y.target) = false := beq_eq_false_iff_ne.mpr h2
        have d2 : (x.target != y.target) = true := bne_iff_ne.mpr h2
        have hfin : decide (x = y) = false := decide_eq_false (fun e => h2 (by rw [e]))
        have HF := Aside0.mk hfin
        clear hfin
        clear h0
        clear h1
        clear h2
        go_enter Try.func167, Try.ntmps167
        go_wp2
        go_ret
        exact ⟨by rw [HF.out]; rfl, by repeat (first | exact Below.refl _ _ | apply below_alloc | apply below_drew1 | apply pw_below_drewN | assumption)⟩
    · skip
      have b1 : (x.to_ == y.to_) = false := beq_eq_false_iff_ne.mpr h1
      have d1 : (x.to_ != y.to_) = true := bne_iff_ne.mpr h1
      have hfin : decide (x = y) = false := decide_eq_false (fun e => h1 (by rw [e]))
      have HF := Aside0.mk hfin
      clear hfin
      clear h0
      clear h1
      go_enter Try.func167, Try.ntmps167
      go_wp2
      go_ret
      exact ⟨by rw [HF.out]; rfl, by repeat (first | exact Below.refl _ _ | apply below_alloc | apply below_drew1 | apply pw_below_drewN | assumption)⟩
  · skip
    have b0 : (x.from_ == y.from_) = false := beq_eq_false_iff_ne.mpr h0
    have d0 : (x.from_ != y.from_) = true := bne_iff_ne.mpr h0
    have hfin : decide (x = y) = false := decide_eq_false (fun e => h0 (by rw [e]))
    have HF := Aside0.mk hfin
    clear hfin
    clear h0
    go_enter Try.func167, Try.ntmps167
    go_wp2
    go_ret
    exact ⟨by rw [HF.out]; rfl, by repeat (first | exact Below.refl _ _ | apply below_alloc | apply below_drew1 | apply pw_below_drewN | assumption)⟩
set_option maxHeartbeats 4000000 in
set_option maxRecDepth 100000 in
theorem eqHandlerS (A B : Option Addr) (c d : Nat) (l m : List Handler) (w : World) (hr : kHandler.C w A l.length l) (hr2 : kHandler.C w B m.length m) :
    Calls Try.prog 141 #[.slice A l.length c, .slice B m.length d] w fun e w' => e = .returned (.bool (decide (l = m))) ∧ Below w.heap.size w w' := by
  have hL : l.length ≤ 9223372036854775807 := hr.2.1
  by_cases hlen : l.length = m.length
  · have b1 : ((l.length : Int) != (m.length : Int)) = false := by simp [hlen]
    have HR := Aside0.mk hr; have HR2 := Aside0.mk hr2; have HL := Aside0.mk hlen
    clear hr hr2 hlen
    go_enter Try.func141, Try.ntmps141
    go_wp2
    go_loopw [5] (fun v wr => ∃ j : Nat, v = .int .i64 j ∧ j ≤ l.length ∧ Aside0 (∀ i : Nat, i < j → el zHandler l i = el zHandler m i) ∧ Aside0 (Below w.heap.size w wr)) (fun v _ => l.length - (intOf v).toNat)
    case atStart => exact ⟨0, rfl, by omega, ⟨fun i hi => by omega⟩, ⟨Below.refl _ _⟩⟩
    case round =>
      obtain ⟨j, rfl, hj, HE, HW⟩ := hrel
      by_cases hlt : j < l.length
      · obtain ⟨pa, rfl, pK, px0, px1, px2⟩ := Handler_at (Kd.C_below HR.out HW.out) j hlt
        have pK2 := Aside0.mk pK; clear pK
        obtain ⟨qa, rfl, qK, qx0, qx1, qx2⟩ := Handler_at (Kd.C_below HR2.out HW.out) j (by have := HL.out; omega)
        have qK2 := Aside0.mk qK; clear qK
        have i1 : (0 : Int) ≤ (j : Int) := by omega
        have i2 : (j : Int) < (l.length : Int) := by omega
        have i3 : (j : Int) < (m.length : Int) := by have := HL.out; omega
        by_cases he : el zHandler l j = el zHandler m j
        · have b2 : decide (el zHandler l j = el zHandler m j) = true := decide_eq_true he
          have HE2 := Aside0.mk he
          clear he
          go_wp2
          have HS : Aside0 (∀ W : World, Below wr.heap.size wr W → W.cell? (pa.add (j * 3)) = some (.int .i64 (el zHandler l j).from_) ∧ W.cell? ⟨(pa.add (j * 3)).block, (pa.add (j * 3)).off + 1, none⟩ = some (.int .i64 (el zHandler l j).to_) ∧ W.cell? ⟨(pa.add (j * 3)).block, (pa.add (j * 3)).off + 2, none⟩ = some (.int .i64 (el zHandler l j).target) ∧ W.cell? (qa.add (j * 3)) = some (.int .i64 (el zHandler m j).from_) ∧ W.cell? ⟨(qa.add (j * 3)).block, (qa.add (j * 3)).off + 1, none⟩ = some (.int .i64 (el zHandler m j).to_) ∧ W.cell? ⟨(qa.add (j * 3)).block, (qa.add (j * 3)).off + 2, none⟩ = some (.int .i64 (el zHandler m j).target)) := ⟨fun W hB => ⟨pw_cell_below hB px0, pw_cell_below hB px1, pw_cell_below hB px2, pw_cell_below hB qx0, pw_cell_below hB qx1, pw_cell_below hB qx2⟩⟩
          go_region_held3 (fun W => W.cell? (pa.add (j * 3)) = some (.int .i64 (el zHandler l j).from_) ∧ W.cell? ⟨(pa.add (j * 3)).block, (pa.add (j * 3)).off + 1, none⟩ = some (.int .i64 (el zHandler l j).to_) ∧ W.cell? ⟨(pa.add (j * 3)).block, (pa.add (j * 3)).off + 2, none⟩ = some (.int .i64 (el zHandler l j).target) ∧ W.cell? (qa.add (j * 3)) = some (.int .i64 (el zHandler m j).from_) ∧ W.cell? ⟨(qa.add (j * 3)).block, (qa.add (j * 3)).off + 1, none⟩ = some (.int .i64 (el zHandler m j).to_) ∧ W.cell? ⟨(qa.add (j * 3)).block, (qa.add (j * 3)).off + 2, none⟩ = some (.int .i64 (el zHandler m j).target)) (first | exact HS.out _ (below_step (below_drew1 (Below.refl _ _)) hb) | exact HS.out _ (below_drew1 (Below.refl _ _))) (first | (go_at_call 167; refine (eqHandler (el zHandler l j) (el zHandler m j) _ _ _ ?s1 ?s2).mono ?_; (case s1 => exact Kd.K_drew0 pK2.out); (case s2 => exact Kd.K_drew0 qK2.out); rintro e w1 ⟨rfl, hb⟩))
          go_wp2
          go_roundw
          case rel => exact ⟨j + 1, by go_num, by omega, ⟨fun i hi => by rcases Nat.lt_succ_iff_lt_or_eq.1 hi with h | h; exact HE.out i h; rw [h]; exact HE2.out⟩, ⟨below_step (below_drew1 HW.out) hb⟩⟩
          case measure => simp [intOf]; omega
        · have b2 : decide (el zHandler l j = el zHandler m j) = false := decide_eq_false he
          have HE2 := Aside0.mk he
          clear he
          go_wp2
          have HS : Aside0 (∀ W : World, Below wr.heap.size wr W → W.cell? (pa.add (j * 3)) = some (.int .i64 (el zHandler l j).from_) ∧ W.cell? ⟨(pa.add (j * 3)).block, (pa.add (j * 3)).off + 1, none⟩ = some (.int .i64 (el zHandler l j).to_) ∧ W.cell? ⟨(pa.add (j * 3)).block, (pa.add (j * 3)).off + 2, none⟩ = some (.int .i64 (el zHandler l j).target) ∧ W.cell? (qa.add (j * 3)) = some (.int .i64 (el zHandler m j).from_) ∧ W.cell? ⟨(qa.add (j * 3)).block, (qa.add (j * 3)).off + 1, none⟩ = some (.int .i64 (el zHandler m j).to_) ∧ W.cell? ⟨(qa.add (j * 3)).block, (qa.add (j * 3)).off + 2, none⟩ = some (.int .i64 (el zHandler m j).target)) := ⟨fun W hB => ⟨pw_cell_below hB px0, pw_cell_below hB px1, pw_cell_below hB px2, pw_cell_below hB qx0, pw_cell_below hB qx1, pw_cell_below hB qx2⟩⟩
          go_region_held3 (fun W => W.cell? (pa.add (j * 3)) = some (.int .i64 (el zHandler l j).from_) ∧ W.cell? ⟨(pa.add (j * 3)).block, (pa.add (j * 3)).off + 1, none⟩ = some (.int .i64 (el zHandler l j).to_) ∧ W.cell? ⟨(pa.add (j * 3)).block, (pa.add (j * 3)).off + 2, none⟩ = some (.int .i64 (el zHandler l j).target) ∧ W.cell? (qa.add (j * 3)) = some (.int .i64 (el zHandler m j).from_) ∧ W.cell? ⟨(qa.add (j * 3)).block, (qa.add (j * 3)).off + 1, none⟩ = some (.int .i64 (el zHandler m j).to_) ∧ W.cell? ⟨(qa.add (j * 3)).block, (qa.add (j * 3)).off + 2, none⟩ = some (.int .i64 (el zHandler m j).target)) (first | exact HS.out _ (below_step (below_drew1 (Below.refl _ _)) hb) | exact HS.out _ (below_drew1 (Below.refl _ _))) (first | (go_at_call 167; refine (eqHandler (el zHandler l j) (el zHandler m j) _ _ _ ?s1 ?s2).mono ?_; (case s1 => exact Kd.K_drew0 pK2.out); (case s2 => exact Kd.K_drew0 qK2.out); rintro e w1 ⟨rfl, hb⟩))
          go_wp2
          go_ret
          exact ⟨by rw [decide_eq_false (fun h => HE2.out (by rw [h]))]; rfl, below_step (below_drew1 HW.out) hb⟩
      · go_wp2
        go_ret
        exact ⟨by rw [decide_eq_true (el_ext zHandler HL.out (fun i hi => HE.out i (by omega)))]; rfl, HW.out⟩
  · have b1 : ((l.length : Int) != (m.length : Int)) = true := by simp; omega
    have HL := Aside0.mk hlen
    clear hr hr2 hlen
    go_enter Try.func141, Try.ntmps141
    go_wp2
    go_ret
    exact ⟨by rw [decide_eq_false (fun h => HL.out (by rw [h]))]; rfl, Below.refl _ _⟩
set_option maxHeartbeats 4000000 in
set_option maxRecDepth 100000 in
theorem eqConst (x y : Const) (cs ds : List Value) (w : World) (hk : kConst.K w x cs) (hk2 : kConst.K w y ds) :
    Calls Try.prog 105 #[.agg ⟨cs⟩, .agg ⟨ds⟩] w fun e w' => e = .returned (.bool (decide (x = y))) ∧ Below w.heap.size w w' := by
  have ecs := kConst_open hk
  subst ecs
  have eds := kConst_open hk2
  subst eds
  clear hk hk2
  have hu := Try.underlying100
  by_cases h0 : x.kind = y.kind
  · skip
    have b0 : (x.kind == y.kind) = true := beq_iff_eq.mpr h0
    have d0 : (x.kind != y.kind) = false := bne_eq_false_iff_eq.mpr h0
    by_cases h1 : x.num = y.num
    · skip
      have b1 : (x.num == y.num) = true := beq_iff_eq.mpr h1
      have d1 : (x.num != y.num) = false := bne_eq_false_iff_eq.mpr h1
      by_cases h2 : x.text = y.text
      · skip
        have b2 : (x.text.toList == y.text.toList) = true := by rw [h2]; exact beq_self_eq_true _
        have d2 : (x.text.toList != y.text.toList) = false := by rw [h2]; exact bne_self_eq_false _
        have hfin : decide (x = y) = true := decide_eq_true (by cases x; cases y; simp_all)
        have HF := Aside0.mk hfin
        clear hfin
        clear h0
        clear h1
        clear h2
        go_enter Try.func105, Try.ntmps105
        go_wp2
        go_ret
        exact ⟨by rw [HF.out]; rfl, by repeat (first | exact Below.refl _ _ | apply below_alloc | apply below_drew1 | apply pw_below_drewN | assumption)⟩
      · skip
        have n2 : ¬ x.text.toList = y.text.toList := fun e => h2 (bytes_ext e)
        have b2 : (x.text.toList == y.text.toList) = false := beq_eq_false_iff_ne.mpr n2
        have d2 : (x.text.toList != y.text.toList) = true := bne_iff_ne.mpr n2
        clear n2
        have hfin : decide (x = y) = false := decide_eq_false (fun e => h2 (by rw [e]))
        have HF := Aside0.mk hfin
        clear hfin
        clear h0
        clear h1
        clear h2
        go_enter Try.func105, Try.ntmps105
        go_wp2
        go_ret
        exact ⟨by rw [HF.out]; rfl, by repeat (first | exact Below.refl _ _ | apply below_alloc | apply below_drew1 | apply pw_below_drewN | assumption)⟩
    · skip
      have b1 : (x.num == y.num) = false := beq_eq_false_iff_ne.mpr h1
      have d1 : (x.num != y.num) = true := bne_iff_ne.mpr h1
      have hfin : decide (x = y) = false := decide_eq_false (fun e => h1 (by rw [e]))
      have HF := Aside0.mk hfin
      clear hfin
      clear h0
      clear h1
      go_enter Try.func105, Try.ntmps105
      go_wp2
      go_ret
      exact ⟨by rw [HF.out]; rfl, by repeat (first | exact Below.refl _ _ | apply below_alloc | apply below_drew1 | apply pw_below_drewN | assumption)⟩
  · skip
    have b0 : (x.kind == y.kind) = false := beq_eq_false_iff_ne.mpr h0
    have d0 : (x.kind != y.kind) = true := bne_iff_ne.mpr h0
    have hfin : decide (x = y) = false := decide_eq_false (fun e => h0 (by rw [e]))
    have HF := Aside0.mk hfin
    clear hfin
    clear h0
    go_enter Try.func105, Try.ntmps105
    go_wp2
    go_ret
    exact ⟨by rw [HF.out]; rfl, by repeat (first | exact Below.refl _ _ | apply below_alloc | apply below_drew1 | apply pw_below_drewN | assumption)⟩
set_option maxHeartbeats 4000000 in
set_option maxRecDepth 100000 in
theorem eqConstS (A B : Option Addr) (c d : Nat) (l m : List Const) (w : World) (hr : kConst.C w A l.length l) (hr2 : kConst.C w B m.length m) :
    Calls Try.prog 63 #[.slice A l.length c, .slice B m.length d] w fun e w' => e = .returned (.bool (decide (l = m))) ∧ Below w.heap.size w w' := by
  have hL : l.length ≤ 9223372036854775807 := hr.2.1
  by_cases hlen : l.length = m.length
  · have b1 : ((l.length : Int) != (m.length : Int)) = false := by simp [hlen]
    have HR := Aside0.mk hr; have HR2 := Aside0.mk hr2; have HL := Aside0.mk hlen
    clear hr hr2 hlen
    go_enter Try.func63, Try.ntmps63
    go_wp2
    go_loopw [5] (fun v wr => ∃ j : Nat, v = .int .i64 j ∧ j ≤ l.length ∧ Aside0 (∀ i : Nat, i < j → el zConst l i = el zConst m i) ∧ Aside0 (Below w.heap.size w wr)) (fun v _ => l.length - (intOf v).toNat)
    case atStart => exact ⟨0, rfl, by omega, ⟨fun i hi => by omega⟩, ⟨Below.refl _ _⟩⟩
    case round =>
      obtain ⟨j, rfl, hj, HE, HW⟩ := hrel
      by_cases hlt : j < l.length
      · obtain ⟨pa, rfl, pK, px0, px1, px2⟩ := Const_at (Kd.C_below HR.out HW.out) j hlt
        have pK2 := Aside0.mk pK; clear pK
        obtain ⟨qa, rfl, qK, qx0, qx1, qx2⟩ := Const_at (Kd.C_below HR2.out HW.out) j (by have := HL.out; omega)
        have qK2 := Aside0.mk qK; clear qK
        have i1 : (0 : Int) ≤ (j : Int) := by omega
        have i2 : (j : Int) < (l.length : Int) := by omega
        have i3 : (j : Int) < (m.length : Int) := by have := HL.out; omega
        by_cases he : el zConst l j = el zConst m j
        · have b2 : decide (el zConst l j = el zConst m j) = true := decide_eq_true he
          have HE2 := Aside0.mk he
          clear he
          go_wp2
          have HS : Aside0 (∀ W : World, Below wr.heap.size wr W → W.cell? (pa.add (j * 3)) = some (.int .i64 (el zConst l j).kind) ∧ W.cell? ⟨(pa.add (j * 3)).block, (pa.add (j * 3)).off + 1, none⟩ = some (.int .u64 (el zConst l j).num) ∧ W.cell? ⟨(pa.add (j * 3)).block, (pa.add (j * 3)).off + 2, none⟩ = some (.string (el zConst l j).text) ∧ W.cell? (qa.add (j * 3)) = some (.int .i64 (el zConst m j).kind) ∧ W.cell? ⟨(qa.add (j * 3)).block, (qa.add (j * 3)).off + 1, none⟩ = some (.int .u64 (el zConst m j).num) ∧ W.cell? ⟨(qa.add (j * 3)).block, (qa.add (j * 3)).off + 2, none⟩ = some (.string (el zConst m j).text)) := ⟨fun W hB => ⟨pw_cell_below hB px0, pw_cell_below hB px1, pw_cell_below hB px2, pw_cell_below hB qx0, pw_cell_below hB qx1, pw_cell_below hB qx2⟩⟩
          go_region_held3 (fun W => W.cell? (pa.add (j * 3)) = some (.int .i64 (el zConst l j).kind) ∧ W.cell? ⟨(pa.add (j * 3)).block, (pa.add (j * 3)).off + 1, none⟩ = some (.int .u64 (el zConst l j).num) ∧ W.cell? ⟨(pa.add (j * 3)).block, (pa.add (j * 3)).off + 2, none⟩ = some (.string (el zConst l j).text) ∧ W.cell? (qa.add (j * 3)) = some (.int .i64 (el zConst m j).kind) ∧ W.cell? ⟨(qa.add (j * 3)).block, (qa.add (j * 3)).off + 1, none⟩ = some (.int .u64 (el zConst m j).num) ∧ W.cell? ⟨(qa.add (j * 3)).block, (qa.add (j * 3)).off + 2, none⟩ = some (.string (el zConst m j).text)) (first | exact HS.out _ (below_step (below_drew1 (Below.refl _ _)) hb) | exact HS.out _ (below_drew1 (Below.refl _ _))) (first | (go_at_call 105; refine (eqConst (el zConst l j) (el zConst m j) _ _ _ ?s1 ?s2).mono ?_; (case s1 => exact Kd.K_drew0 pK2.out); (case s2 => exact Kd.K_drew0 qK2.out); rintro e w1 ⟨rfl, hb⟩))
          go_wp2
          go_roundw
          case rel => exact ⟨j + 1, by go_num, by omega, ⟨fun i hi => by rcases Nat.lt_succ_iff_lt_or_eq.1 hi with h | h; exact HE.out i h; rw [h]; exact HE2.out⟩, ⟨below_step (below_drew1 HW.out) hb⟩⟩
          case measure => simp [intOf]; omega
        · have b2 : decide (el zConst l j = el zConst m j) = false := decide_eq_false he
          have HE2 := Aside0.mk he
          clear he
          go_wp2
          have HS : Aside0 (∀ W : World, Below wr.heap.size wr W → W.cell? (pa.add (j * 3)) = some (.int .i64 (el zConst l j).kind) ∧ W.cell? ⟨(pa.add (j * 3)).block, (pa.add (j * 3)).off + 1, none⟩ = some (.int .u64 (el zConst l j).num) ∧ W.cell? ⟨(pa.add (j * 3)).block, (pa.add (j * 3)).off + 2, none⟩ = some (.string (el zConst l j).text) ∧ W.cell? (qa.add (j * 3)) = some (.int .i64 (el zConst m j).kind) ∧ W.cell? ⟨(qa.add (j * 3)).block, (qa.add (j * 3)).off + 1, none⟩ = some (.int .u64 (el zConst m j).num) ∧ W.cell? ⟨(qa.add (j * 3)).block, (qa.add (j * 3)).off + 2, none⟩ = some (.string (el zConst m j).text)) := ⟨fun W hB => ⟨pw_cell_below hB px0, pw_cell_below hB px1, pw_cell_below hB px2, pw_cell_below hB qx0, pw_cell_below hB qx1, pw_cell_below hB qx2⟩⟩
          go_region_held3 (fun W => W.cell? (pa.add (j * 3)) = some (.int .i64 (el zConst l j).kind) ∧ W.cell? ⟨(pa.add (j * 3)).block, (pa.add (j * 3)).off + 1, none⟩ = some (.int .u64 (el zConst l j).num) ∧ W.cell? ⟨(pa.add (j * 3)).block, (pa.add (j * 3)).off + 2, none⟩ = some (.string (el zConst l j).text) ∧ W.cell? (qa.add (j * 3)) = some (.int .i64 (el zConst m j).kind) ∧ W.cell? ⟨(qa.add (j * 3)).block, (qa.add (j * 3)).off + 1, none⟩ = some (.int .u64 (el zConst m j).num) ∧ W.cell? ⟨(qa.add (j * 3)).block, (qa.add (j * 3)).off + 2, none⟩ = some (.string (el zConst m j).text)) (first | exact HS.out _ (below_step (below_drew1 (Below.refl _ _)) hb) | exact HS.out _ (below_drew1 (Below.refl _ _))) (first | (go_at_call 105; refine (eqConst (el zConst l j) (el zConst m j) _ _ _ ?s1 ?s2).mono ?_; (case s1 => exact Kd.K_drew0 pK2.out); (case s2 => exact Kd.K_drew0 qK2.out); rintro e w1 ⟨rfl, hb⟩))
          go_wp2
          go_ret
          exact ⟨by rw [decide_eq_false (fun h => HE2.out (by rw [h]))]; rfl, below_step (below_drew1 HW.out) hb⟩
      · go_wp2
        go_ret
        exact ⟨by rw [decide_eq_true (el_ext zConst HL.out (fun i hi => HE.out i (by omega)))]; rfl, HW.out⟩
  · have b1 : ((l.length : Int) != (m.length : Int)) = true := by simp; omega
    have HL := Aside0.mk hlen
    clear hr hr2 hlen
    go_enter Try.func63, Try.ntmps63
    go_wp2
    go_ret
    exact ⟨by rw [decide_eq_false (fun h => HL.out (by rw [h]))]; rfl, Below.refl _ _⟩
end Go.Proofs.Ytcbaokflimdjnaa
end
section
namespace Go.Proofs.Ytcbaokflimdjnaa
open Go.RowKit Go.Proofs.YtcbaokflimdjnaaW.PrintWords Go.Proofs.YtcbaokflimdjnaaW.PrintMore Go.Proofs.Ytcbaokflimdjnaa.Law Go.Proofs.Ytcbaokflimdjnaa.Num
set_option linter.unusedVariables false
set_option linter.unusedSimpArgs false
set_option maxHeartbeats 4000000 in
set_option maxRecDepth 100000 in
theorem eqFunc (x y : Func) (cs ds : List Value) (w : World) (hk : kFuncI.K w x cs) (hk2 : kFuncI.K w y ds) :
    Calls Try.prog 104 #[.agg ⟨cs⟩, .agg ⟨ds⟩] w fun e w' => e = .returned (.bool (decide (x = y))) ∧ Below w.heap.size w w' := by
  obtain ⟨pA2, pc2, pA3, pc3, pA4, pc4, rfl, pl2, pg2, pl3, pg3, pl4, pg4⟩ := kFuncI_open hk
  have pG2 := Aside0.mk pg2; have pL2 := Aside0.mk pl2; clear pg2 pl2
  have pG3 := Aside0.mk pg3; have pL3 := Aside0.mk pl3; clear pg3 pl3
  have pG4 := Aside0.mk pg4; have pL4 := Aside0.mk pl4; clear pg4 pl4
  obtain ⟨qA2, qc2, qA3, qc3, qA4, qc4, rfl, ql2, qg2, ql3, qg3, ql4, qg4⟩ := kFuncI_open hk2
  have qG2 := Aside0.mk qg2; have qL2 := Aside0.mk ql2; clear qg2 ql2
  have qG3 := Aside0.mk qg3; have qL3 := Aside0.mk ql3; clear qg3 ql3
  have qG4 := Aside0.mk qg4; have qL4 := Aside0.mk ql4; clear qg4 ql4
  clear hk hk2
  have hu := Try.underlying73
  have A0 := Aside0.mk (((At.start w).alloc #[.int .i64 x.params, .int .i64 x.regs, .slice pA2 x.caps.length pc2, .slice pA3 x.code.length pc3, .slice pA4 x.handlers.length pc4] 73).alloc #[.int .i64 y.params, .int .i64 y.regs, .slice qA2 y.caps.length qc2, .slice qA3 y.code.length qc3, .slice qA4 y.handlers.length qc4] 73)
  rw [show (w.alloc (.cells #[.int .i64 x.params, .int .i64 x.regs, .slice pA2 x.caps.length pc2, .slice pA3 x.code.length pc3, .slice pA4 x.handlers.length pc4] 73)).heap.size = w.heap.size + 1 by simp] at A0
  by_cases h0 : x.params = y.params
  · skip
    have b0 : (x.params == y.params) = true := beq_iff_eq.mpr h0
    have d0 : (x.params != y.params) = false := bne_eq_false_iff_eq.mpr h0
    by_cases h1 : x.regs = y.regs
    · skip
      have b1 : (x.regs == y.regs) = true := beq_iff_eq.mpr h1
      have d1 : (x.regs != y.regs) = false := bne_eq_false_iff_eq.mpr h1
      by_cases h2 : x.caps = y.caps
      · skip
        have d2 : decide (x.caps = y.caps) = true := decide_eq_true h2
        by_cases h3 : x.code = y.code
        · skip
          have d3 : decide (x.code = y.code) = true := decide_eq_true h3
          by_cases h4 : x.handlers = y.handlers
          · skip
            have d4 : decide (x.handlers = y.handlers) = true := decide_eq_true h4
            have hfin : decide (x = y) = true := decide_eq_true (by cases x; cases y; simp_all)
            have HF := Aside0.mk hfin
            clear hfin
            clear h0
            clear h1
            clear h2
            clear h3
            clear h4
            go_enter Try.func104, Try.ntmps104
            go_wp2_with fail
            refine (eqCapS _ _ _ _ _ _ _ (A0.out.reads pG2.out) (A0.out.reads qG2.out)).mono ?_
            rintro e w1 ⟨rfl, hb0⟩
            have hb := hb0
            have A1 := Aside0.mk (A0.out.step hb)
            clear hb hb0 A0
            have z0 := A1.out.cell1; have z1 := A1.out.cell0
            go_wp2_with fail
            refine (eqInsS _ _ _ _ _ _ _ (A1.out.reads pG3.out) (A1.out.reads qG3.out)).mono ?_
            rintro e w2 ⟨rfl, hb0⟩
            have hb := hb0
            have A2 := Aside0.mk (A1.out.step hb)
            clear hb hb0 A1 z0 z1
            have z0 := A2.out.cell1; have z1 := A2.out.cell0
            go_wp2_with fail
            refine (eqHandlerS _ _ _ _ _ _ _ (A2.out.reads pG4.out) (A2.out.reads qG4.out)).mono ?_
            rintro e w3 ⟨rfl, hb0⟩
            have hb := hb0
            have A3 := Aside0.mk (A2.out.step hb)
            clear hb hb0 A2 z0 z1
            have z0 := A3.out.cell1; have z1 := A3.out.cell0
            go_wp2
            go_ret
            exact ⟨by rw [HF.out]; rfl, A3.out.below⟩
          · skip
            have d4 : decide (x.handlers = y.handlers) = false := decide_eq_false h4
            have hfin : decide (x = y) = false := decide_eq_false (fun e => h4 (by rw [e]))
            have HF := Aside0.mk hfin
            clear hfin
            clear h0
            clear h1
            clear h2
            clear h3
            clear h4
            go_enter Try.func104, Try.ntmps104
            go_wp2_with fail
            refine (eqCapS _ _ _ _ _ _ _ (A0.out.reads pG2.out) (A0.out.reads qG2.out)).mono ?_
            rintro e w1 ⟨rfl, hb0⟩
            have hb := hb0
            have A1 := Aside0.mk (A0.out.step hb)
            clear hb hb0 A0
            have z0 := A1.out.cell1; have z1 := A1.out.cell0
            go_wp2_with fail
            refine (eqInsS _ _ _ _ _ _ _ (A1.out.reads pG3.out) (A1.out.reads qG3.out)).mono ?_
            rintro e w2 ⟨rfl, hb0⟩
            have hb := hb0
            have A2 := Aside0.mk (A1.out.step hb)
            clear hb hb0 A1 z0 z1
            have z0 := A2.out.cell1; have z1 := A2.out.cell0
            go_wp2_with fail
            refine (eqHandlerS _ _ _ _ _ _ _ (A2.out.reads pG4.out) (A2.out.reads qG4.out)).mono ?_
            rintro e w3 ⟨rfl, hb0⟩
            have hb := hb0
            have A3 := Aside0.mk (A2.out.step hb)
            clear hb hb0 A2 z0 z1
            have z0 := A3.out.cell1; have z1 := A3.out.cell0
            go_wp2
            go_ret
            exact ⟨by rw [HF.out]; rfl, A3.out.below⟩
        · skip
          have d3 : decide (x.code = y.code) = false := decide_eq_false h3
          have hfin : decide (x = y) = false := decide_eq_false (fun e => h3 (by rw [e]))
          have HF := Aside0.mk hfin
          clear hfin
          clear h0
          clear h1
          clear h2
          clear h3
          go_enter Try.func104, Try.ntmps104
          go_wp2_with fail
          refine (eqCapS _ _ _ _ _ _ _ (A0.out.reads pG2.out) (A0.out.reads qG2.out)).mono ?_
          rintro e w1 ⟨rfl, hb0⟩
          have hb := hb0
          have A1 := Aside0.mk (A0.out.step hb)
          clear hb hb0 A0
          have z0 := A1.out.cell1; have z1 := A1.out.cell0
          go_wp2_with fail
          refine (eqInsS _ _ _ _ _ _ _ (A1.out.reads pG3.out) (A1.out.reads qG3.out)).mono ?_
          rintro e w2 ⟨rfl, hb0⟩
          have hb := hb0
          have A2 := Aside0.mk (A1.out.step hb)
          clear hb hb0 A1 z0 z1
          have z0 := A2.out.cell1; have z1 := A2.out.cell0
          go_wp2
          go_ret
          exact ⟨by rw [HF.out]; rfl, A2.out.below⟩
      · skip
        have d2 : decide (x.caps = y.caps) = false := decide_eq_false h2
        have hfin : decide (x = y) = false := decide_eq_false (fun e => h2 (by rw [e]))
        have HF := Aside0.mk hfin
        clear hfin
        clear h0
        clear h1
        clear h2
        go_enter Try.func104, Try.ntmps104
        go_wp2_with fail
        refine (eqCapS _ _ _ _ _ _ _ (A0.out.reads pG2.out) (A0.out.reads qG2.out)).mono ?_
        rintro e w1 ⟨rfl, hb0⟩
        have hb := hb0
        have A1 := Aside0.mk (A0.out.step hb)
        clear hb hb0 A0
        have z0 := A1.out.cell1; have z1 := A1.out.cell0
        go_wp2
        go_ret
        exact ⟨by rw [HF.out]; rfl, A1.out.below⟩
    · skip
      have b1 : (x.regs == y.regs) = false := beq_eq_false_iff_ne.mpr h1
      have d1 : (x.regs != y.regs) = true := bne_iff_ne.mpr h1
      have hfin : decide (x = y) = false := decide_eq_false (fun e => h1 (by rw [e]))
      have HF := Aside0.mk hfin
      clear hfin
      clear h0
      clear h1
      go_enter Try.func104, Try.ntmps104
      go_wp2
      go_ret
      exact ⟨by rw [HF.out]; rfl, by repeat (first | exact Below.refl _ _ | apply below_alloc | apply below_drew1 | apply pw_below_drewN | assumption)⟩
  · skip
    have b0 : (x.params == y.params) = false := beq_eq_false_iff_ne.mpr h0
    have d0 : (x.params != y.params) = true := bne_iff_ne.mpr h0
    have hfin : decide (x = y) = false := decide_eq_false (fun e => h0 (by rw [e]))
    have HF := Aside0.mk hfin
    clear hfin
    clear h0
    go_enter Try.func104, Try.ntmps104
    go_wp2
    go_ret
    exact ⟨by rw [HF.out]; rfl, by repeat (first | exact Below.refl _ _ | apply below_alloc | apply below_drew1 | apply pw_below_drewN | assumption)⟩
set_option maxHeartbeats 4000000 in
set_option maxRecDepth 100000 in
theorem eqFuncS (A B : Option Addr) (c d : Nat) (l m : List Func) (w : World) (hr : kFuncI.C w A l.length l) (hr2 : kFuncI.C w B m.length m) :
    Calls Try.prog 62 #[.slice A l.length c, .slice B m.length d] w fun e w' => e = .returned (.bool (decide (l = m))) ∧ Below w.heap.size w w' := by
  have hL : l.length ≤ 9223372036854775807 := hr.2.1
  by_cases hlen : l.length = m.length
  · have b1 : ((l.length : Int) != (m.length : Int)) = false := by simp [hlen]
    have HR := Aside0.mk hr; have HR2 := Aside0.mk hr2; have HL := Aside0.mk hlen
    clear hr hr2 hlen
    go_enter Try.func62, Try.ntmps62
    go_wp2
    go_loopw [5] (fun v wr => ∃ j : Nat, v = .int .i64 j ∧ j ≤ l.length ∧ Aside0 (∀ i : Nat, i < j → el zFunc l i = el zFunc m i) ∧ Aside0 (Below w.heap.size w wr)) (fun v _ => l.length - (intOf v).toNat)
    case atStart => exact ⟨0, rfl, by omega, ⟨fun i hi => by omega⟩, ⟨Below.refl _ _⟩⟩
    case round =>
      obtain ⟨j, rfl, hj, HE, HW⟩ := hrel
      by_cases hlt : j < l.length
      · obtain ⟨pa, pA2, pc2, pA3, pc3, pA4, pc4, rfl, pK, px0, px1, px2, px3, px4⟩ := FuncI_at (Kd.C_below HR.out HW.out) j hlt
        have pK2 := Aside0.mk pK; clear pK
        obtain ⟨qa, qA2, qc2, qA3, qc3, qA4, qc4, rfl, qK, qx0, qx1, qx2, qx3, qx4⟩ := FuncI_at (Kd.C_below HR2.out HW.out) j (by have := HL.out; omega)
        have qK2 := Aside0.mk qK; clear qK
        have i1 : (0 : Int) ≤ (j : Int) := by omega
        have i2 : (j : Int) < (l.length : Int) := by omega
        have i3 : (j : Int) < (m.length : Int) := by have := HL.out; omega
        by_cases he : el zFunc l j = el zFunc m j
        · have b2 : decide (el zFunc l j = el zFunc m j) = true := decide_eq_true he
          have HE2 := Aside0.mk he
          clear he
          go_wp2
          have HS : Aside0 (∀ W : World, Below wr.heap.size wr W → W.cell? (pa.add (j * 5)) = some (.int .i64 (el zFunc l j).params) ∧ W.cell? ⟨(pa.add (j * 5)).block, (pa.add (j * 5)).off + 1, none⟩ = some (.int .i64 (el zFunc l j).regs) ∧ W.cell? ⟨(pa.add (j * 5)).block, (pa.add (j * 5)).off + 2, none⟩ = some (.slice pA2 (el zFunc l j).caps.length pc2) ∧ W.cell? ⟨(pa.add (j * 5)).block, (pa.add (j * 5)).off + 3, none⟩ = some (.slice pA3 (el zFunc l j).code.length pc3) ∧ W.cell? ⟨(pa.add (j * 5)).block, (pa.add (j * 5)).off + 4, none⟩ = some (.slice pA4 (el zFunc l j).handlers.length pc4) ∧ W.cell? (qa.add (j * 5)) = some (.int .i64 (el zFunc m j).params) ∧ W.cell? ⟨(qa.add (j * 5)).block, (qa.add (j * 5)).off + 1, none⟩ = some (.int .i64 (el zFunc m j).regs) ∧ W.cell? ⟨(qa.add (j * 5)).block, (qa.add (j * 5)).off + 2, none⟩ = some (.slice qA2 (el zFunc m j).caps.length qc2) ∧ W.cell? ⟨(qa.add (j * 5)).block, (qa.add (j * 5)).off + 3, none⟩ = some (.slice qA3 (el zFunc m j).code.length qc3) ∧ W.cell? ⟨(qa.add (j * 5)).block, (qa.add (j * 5)).off + 4, none⟩ = some (.slice qA4 (el zFunc m j).handlers.length qc4)) := ⟨fun W hB => ⟨pw_cell_below hB px0, pw_cell_below hB px1, pw_cell_below hB px2, pw_cell_below hB px3, pw_cell_below hB px4, pw_cell_below hB qx0, pw_cell_below hB qx1, pw_cell_below hB qx2, pw_cell_below hB qx3, pw_cell_below hB qx4⟩⟩
          go_region_held3 (fun W => W.cell? (pa.add (j * 5)) = some (.int .i64 (el zFunc l j).params) ∧ W.cell? ⟨(pa.add (j * 5)).block, (pa.add (j * 5)).off + 1, none⟩ = some (.int .i64 (el zFunc l j).regs) ∧ W.cell? ⟨(pa.add (j * 5)).block, (pa.add (j * 5)).off + 2, none⟩ = some (.slice pA2 (el zFunc l j).caps.length pc2) ∧ W.cell? ⟨(pa.add (j * 5)).block, (pa.add (j * 5)).off + 3, none⟩ = some (.slice pA3 (el zFunc l j).code.length pc3) ∧ W.cell? ⟨(pa.add (j * 5)).block, (pa.add (j * 5)).off + 4, none⟩ = some (.slice pA4 (el zFunc l j).handlers.length pc4) ∧ W.cell? (qa.add (j * 5)) = some (.int .i64 (el zFunc m j).params) ∧ W.cell? ⟨(qa.add (j * 5)).block, (qa.add (j * 5)).off + 1, none⟩ = some (.int .i64 (el zFunc m j).regs) ∧ W.cell? ⟨(qa.add (j * 5)).block, (qa.add (j * 5)).off + 2, none⟩ = some (.slice qA2 (el zFunc m j).caps.length qc2) ∧ W.cell? ⟨(qa.add (j * 5)).block, (qa.add (j * 5)).off + 3, none⟩ = some (.slice qA3 (el zFunc m j).code.length qc3) ∧ W.cell? ⟨(qa.add (j * 5)).block, (qa.add (j * 5)).off + 4, none⟩ = some (.slice qA4 (el zFunc m j).handlers.length qc4)) (first | exact HS.out _ (below_step (below_drew1 (Below.refl _ _)) hb) | exact HS.out _ (below_drew1 (Below.refl _ _))) (first | (go_at_call 104; refine (eqFunc (el zFunc l j) (el zFunc m j) _ _ _ ?s1 ?s2).mono ?_; (case s1 => exact Kd.K_drew0 pK2.out); (case s2 => exact Kd.K_drew0 qK2.out); rintro e w1 ⟨rfl, hb⟩))
          go_wp2
          go_roundw
          case rel => exact ⟨j + 1, by go_num, by omega, ⟨fun i hi => by rcases Nat.lt_succ_iff_lt_or_eq.1 hi with h | h; exact HE.out i h; rw [h]; exact HE2.out⟩, ⟨below_step (below_drew1 HW.out) hb⟩⟩
          case measure => simp [intOf]; omega
        · have b2 : decide (el zFunc l j = el zFunc m j) = false := decide_eq_false he
          have HE2 := Aside0.mk he
          clear he
          go_wp2
          have HS : Aside0 (∀ W : World, Below wr.heap.size wr W → W.cell? (pa.add (j * 5)) = some (.int .i64 (el zFunc l j).params) ∧ W.cell? ⟨(pa.add (j * 5)).block, (pa.add (j * 5)).off + 1, none⟩ = some (.int .i64 (el zFunc l j).regs) ∧ W.cell? ⟨(pa.add (j * 5)).block, (pa.add (j * 5)).off + 2, none⟩ = some (.slice pA2 (el zFunc l j).caps.length pc2) ∧ W.cell? ⟨(pa.add (j * 5)).block, (pa.add (j * 5)).off + 3, none⟩ = some (.slice pA3 (el zFunc l j).code.length pc3) ∧ W.cell? ⟨(pa.add (j * 5)).block, (pa.add (j * 5)).off + 4, none⟩ = some (.slice pA4 (el zFunc l j).handlers.length pc4) ∧ W.cell? (qa.add (j * 5)) = some (.int .i64 (el zFunc m j).params) ∧ W.cell? ⟨(qa.add (j * 5)).block, (qa.add (j * 5)).off + 1, none⟩ = some (.int .i64 (el zFunc m j).regs) ∧ W.cell? ⟨(qa.add (j * 5)).block, (qa.add (j * 5)).off + 2, none⟩ = some (.slice qA2 (el zFunc m j).caps.length qc2) ∧ W.cell? ⟨(qa.add (j * 5)).block, (qa.add (j * 5)).off + 3, none⟩ = some (.slice qA3 (el zFunc m j).code.length qc3) ∧ W.cell? ⟨(qa.add (j * 5)).block, (qa.add (j * 5)).off + 4, none⟩ = some (.slice qA4 (el zFunc m j).handlers.length qc4)) := ⟨fun W hB => ⟨pw_cell_below hB px0, pw_cell_below hB px1, pw_cell_below hB px2, pw_cell_below hB px3, pw_cell_below hB px4, pw_cell_below hB qx0, pw_cell_below hB qx1, pw_cell_below hB qx2, pw_cell_below hB qx3, pw_cell_below hB qx4⟩⟩
          go_region_held3 (fun W => W.cell? (pa.add (j * 5)) = some (.int .i64 (el zFunc l j).params) ∧ W.cell? ⟨(pa.add (j * 5)).block, (pa.add (j * 5)).off + 1, none⟩ = some (.int .i64 (el zFunc l j).regs) ∧ W.cell? ⟨(pa.add (j * 5)).block, (pa.add (j * 5)).off + 2, none⟩ = some (.slice pA2 (el zFunc l j).caps.length pc2) ∧ W.cell? ⟨(pa.add (j * 5)).block, (pa.add (j * 5)).off + 3, none⟩ = some (.slice pA3 (el zFunc l j).code.length pc3) ∧ W.cell? ⟨(pa.add (j * 5)).block, (pa.add (j * 5)).off + 4, none⟩ = some (.slice pA4 (el zFunc l j).handlers.length pc4) ∧ W.cell? (qa.add (j * 5)) = some (.int .i64 (el zFunc m j).params) ∧ W.cell? ⟨(qa.add (j * 5)).block, (qa.add (j * 5)).off + 1, none⟩ = some (.int .i64 (el zFunc m j).regs) ∧ W.cell? ⟨(qa.add (j * 5)).block, (qa.add (j * 5)).off + 2, none⟩ = some (.slice qA2 (el zFunc m j).caps.length qc2) ∧ W.cell? ⟨(qa.add (j * 5)).block, (qa.add (j * 5)).off + 3, none⟩ = some (.slice qA3 (el zFunc m j).code.length qc3) ∧ W.cell? ⟨(qa.add (j * 5)).block, (qa.add (j * 5)).off + 4, none⟩ = some (.slice qA4 (el zFunc m j).handlers.length qc4)) (first | exact HS.out _ (below_step (below_drew1 (Below.refl _ _)) hb) | exact HS.out _ (below_drew1 (Below.refl _ _))) (first | (go_at_call 104; refine (eqFunc (el zFunc l j) (el zFunc m j) _ _ _ ?s1 ?s2).mono ?_; (case s1 => exact Kd.K_drew0 pK2.out); (case s2 => exact Kd.K_drew0 qK2.out); rintro e w1 ⟨rfl, hb⟩))
          go_wp2
          go_ret
          exact ⟨by rw [decide_eq_false (fun h => HE2.out (by rw [h]))]; rfl, below_step (below_drew1 HW.out) hb⟩
      · go_wp2
        go_ret
        exact ⟨by rw [decide_eq_true (el_ext zFunc HL.out (fun i hi => HE.out i (by omega)))]; rfl, HW.out⟩
  · have b1 : ((l.length : Int) != (m.length : Int)) = true := by simp; omega
    have HL := Aside0.mk hlen
    clear hr hr2 hlen
    go_enter Try.func62, Try.ntmps62
    go_wp2
    go_ret
    exact ⟨by rw [decide_eq_false (fun h => HL.out (by rw [h]))]; rfl, Below.refl _ _⟩
set_option maxHeartbeats 4000000 in
set_option maxRecDepth 100000 in
theorem eqImage (x y : Image) (cs ds : List Value) (w : World) (hk : kImageI.K w x cs) (hk2 : kImageI.K w y ds) :
    Calls Try.prog 19 #[.agg ⟨cs⟩, .agg ⟨ds⟩] w fun e w' => e = .returned (.bool (decide (x = y))) ∧ Below w.heap.size w w' := by
  obtain ⟨pA0, pc0, pA1, pc1, rfl, pl0, pg0, pl1, pg1⟩ := kImageI_open hk
  have pG0 := Aside0.mk pg0; have pL0 := Aside0.mk pl0; clear pg0 pl0
  have pG1 := Aside0.mk pg1; have pL1 := Aside0.mk pl1; clear pg1 pl1
  obtain ⟨qA0, qc0, qA1, qc1, rfl, ql0, qg0, ql1, qg1⟩ := kImageI_open hk2
  have qG0 := Aside0.mk qg0; have qL0 := Aside0.mk ql0; clear qg0 ql0
  have qG1 := Aside0.mk qg1; have qL1 := Aside0.mk ql1; clear qg1 ql1
  clear hk hk2
  have hu := Try.underlying37
  have A0 := Aside0.mk (((At.start w).alloc #[.slice pA0 x.funcs.length pc0, .slice pA1 x.consts.length pc1] 37).alloc #[.slice qA0 y.funcs.length qc0, .slice qA1 y.consts.length qc1] 37)
  rw [show (w.alloc (.cells #[.slice pA0 x.funcs.length pc0, .slice pA1 x.consts.length pc1] 37)).heap.size = w.heap.size + 1 by simp] at A0
  by_cases h0 : x.funcs = y.funcs
  · skip
    have d0 : decide (x.funcs = y.funcs) = true := decide_eq_true h0
    by_cases h1 : x.consts = y.consts
    · skip
      have d1 : decide (x.consts = y.consts) = true := decide_eq_true h1
      have hfin : decide (x = y) = true := decide_eq_true (by cases x; cases y; simp_all)
      have HF := Aside0.mk hfin
      clear hfin
      clear h0
      clear h1
      go_enter Try.func19, Try.ntmps19
      go_wp2_with fail
      refine (eqFuncS _ _ _ _ _ _ _ (A0.out.reads pG0.out) (A0.out.reads qG0.out)).mono ?_
      rintro e w1 ⟨rfl, hb0⟩
      have hb := hb0
      have A1 := Aside0.mk (A0.out.step hb)
      clear hb hb0 A0
      have z0 := A1.out.cell1; have z1 := A1.out.cell0
      go_wp2_with fail
      refine (eqConstS _ _ _ _ _ _ _ (A1.out.reads pG1.out) (A1.out.reads qG1.out)).mono ?_
      rintro e w2 ⟨rfl, hb0⟩
      have hb := hb0
      have A2 := Aside0.mk (A1.out.step hb)
      clear hb hb0 A1 z0 z1
      have z0 := A2.out.cell1; have z1 := A2.out.cell0
      go_wp2
      go_ret
      exact ⟨by rw [HF.out]; rfl, A2.out.below⟩
    · skip
      have d1 : decide (x.consts = y.consts) = false := decide_eq_false h1
      have hfin : decide (x = y) = false := decide_eq_false (fun e => h1 (by rw [e]))
      have HF := Aside0.mk hfin
      clear hfin
      clear h0
      clear h1
      go_enter Try.func19, Try.ntmps19
      go_wp2_with fail
      refine (eqFuncS _ _ _ _ _ _ _ (A0.out.reads pG0.out) (A0.out.reads qG0.out)).mono ?_
      rintro e w1 ⟨rfl, hb0⟩
      have hb := hb0
      have A1 := Aside0.mk (A0.out.step hb)
      clear hb hb0 A0
      have z0 := A1.out.cell1; have z1 := A1.out.cell0
      go_wp2_with fail
      refine (eqConstS _ _ _ _ _ _ _ (A1.out.reads pG1.out) (A1.out.reads qG1.out)).mono ?_
      rintro e w2 ⟨rfl, hb0⟩
      have hb := hb0
      have A2 := Aside0.mk (A1.out.step hb)
      clear hb hb0 A1 z0 z1
      have z0 := A2.out.cell1; have z1 := A2.out.cell0
      go_wp2
      go_ret
      exact ⟨by rw [HF.out]; rfl, A2.out.below⟩
  · skip
    have d0 : decide (x.funcs = y.funcs) = false := decide_eq_false h0
    have hfin : decide (x = y) = false := decide_eq_false (fun e => h0 (by rw [e]))
    have HF := Aside0.mk hfin
    clear hfin
    clear h0
    go_enter Try.func19, Try.ntmps19
    go_wp2_with fail
    refine (eqFuncS _ _ _ _ _ _ _ (A0.out.reads pG0.out) (A0.out.reads qG0.out)).mono ?_
    rintro e w1 ⟨rfl, hb0⟩
    have hb := hb0
    have A1 := Aside0.mk (A0.out.step hb)
    clear hb hb0 A0
    have z0 := A1.out.cell1; have z1 := A1.out.cell0
    go_wp2
    go_ret
    exact ⟨by rw [HF.out]; rfl, A1.out.below⟩
end Go.Proofs.Ytcbaokflimdjnaa
end
section
namespace Go.Proofs.Ytcbaokflimdjnaa
open Go.RowKit Go.Proofs.YtcbaokflimdjnaaW.PrintWords Go.Proofs.YtcbaokflimdjnaaW.PrintMore Go.Proofs.Ytcbaokflimdjnaa.Law Go.Proofs.Ytcbaokflimdjnaa.Num
set_option linter.unusedVariables false
set_option linter.unusedSimpArgs false
set_option autoImplicit false
theorem el_set_ne {α : Type} {z x : α} {l : List α} {i j : Nat} (h : i ≠ j) : el z (l.set j x) i = el z l i := by simp [el, List.getElem?_set, Ne.symm h]
theorem el_set_eq {α : Type} {z x : α} {l : List α} {j : Nat} (h : j < l.length) : el z (l.set j x) j = x := by simp [el, h]
set_option maxHeartbeats 4000000 in
set_option maxRecDepth 100000 in
theorem toCap (x : Cap) (cs : List Value) (w : World) (hk : kCap.K w x cs) :
    Calls Try.prog 162 #[.agg ⟨cs⟩] w fun e w' => e = .returned (.agg #[.bool x.reg, .int .i64 x.index]) ∧ Below w.heap.size w w' := by
  have e := kCap_open hk; subst e
  have hu := Try.underlying197; have hu2 := Try.underlying105
  have hz : (w.alloc (.cells ⟨[.bool x.reg, .int .i64 x.index]⟩ 197)).heap.size = w.heap.size + 1 := by simp
  go_enter Try.func162, Try.ntmps162
  go_wp2
  refine bodyPost_ret (results_cell_row rfl _ _ (w.heap.size + 1) 105 #[.bool x.reg, .int .i64 x.index] (0, 0) _ rfl (blk_alloc (hz ▸ blk_new _ _) _) hu2 rfl (by kernel_rfl)) rfl ?_
  exact ⟨rfl, below_alloc (below_alloc (below_alloc (Below.refl _ _) _) _) _⟩
set_option maxHeartbeats 4000000 in
set_option maxRecDepth 100000 in
theorem toCapS (A : Option Addr) (c : Nat) (l : List Cap) (w : World) (hr : kCap.C w A l.length l) (hlen : l.length ≤ 1048576) :
    Calls Try.prog 132 #[.slice A l.length c] w fun e w' => ∃ v, e = .returned v ∧ kCap.R 105 w' w.heap.size (fun _ => True) v l ∧ Below w.heap.size w w' := by
  have HR := Aside0.mk hr; clear hr
  have HB := Aside0.mk (Below.refl w.heap.size w)
  have hu := Try.underlying197; have hu2 := Try.underlying105
  go_enter Try.func132, Try.ntmps132
  go_wp2_with (refine Kd.R_make kCap _ 105 rfl (N := _) rfl _ _ _ rfl (l.length : Int) rfl rfl Try.underlying69 (.agg #[.bool false, .int .i64 0]) 16 (by kernel_rfl) rfl (by decide) (by omega) zCap (ok := fun _ => True) (okp := fun _ => True) (kCap_mkM _ _ _ zCap ) (fun _ hk => hk) trivial (by omega) (by omega) (Below.refl _ _) (Nat.le_refl _) ?_; intro v1 w1 ho hb hg_ hnew_; clear hg_ hnew_ HB; have HO := Aside0.mk ho; have HB := Aside0.mk hb; clear ho hb)
  go_loopw [4] (fun v wr => ∃ (j : Nat) (xs : List Cap), v = .int .i64 j ∧ j ≤ l.length ∧ xs.length = l.length ∧ Aside0 (∀ i : Nat, i < j → el zCap xs i = el zCap l i) ∧ Aside0 (kCap.R 105 wr w.heap.size (fun _ => True) v1 xs) ∧ Aside0 (Below w.heap.size w wr)) (fun v _ => l.length - (intOf v).toNat)
  case atStart => exact ⟨0, _, rfl, by omega, by simp, ⟨fun i hi => by omega⟩, HO, HB⟩
  case round =>
    clear HO HB
    obtain ⟨j, xs, rfl, hj, hn, HE, HO, HB⟩ := hrel
    by_cases hlt : j < l.length
    · obtain ⟨a, rfl, hk, x0, x1⟩ := Cap_at HR.out j hlt
      replace x0 := (HB.out.cell (World.block_lt_of_cell? w _ x0)).trans x0
      replace x1 := (HB.out.cell (World.block_lt_of_cell? w _ x1)).trans x1
      have HK := Aside0.mk hk; clear hk
      have hb2 : (j : Int) < (l.length : Int) := by omega
      go_wp2_with fail
      refine (toCap _ _ _ (kCap.K_below HB.out HK.out)).mono ?_
      rintro e w2 ⟨rfl, hb⟩
      have HO2 := Aside0.mk (Kd.R_below HO.out hb); have HB2 := Aside0.mk (below_step HB.out hb)
      obtain ⟨go, co, hv, gb, gl, cl0, HG0⟩ := Kd.R_form HO.out (by omega)
      rw [hn] at hv; subst hv; clear HG0
      obtain ⟨ce, hcl, hM, hcc, hfr⟩ := Kd.R_elem HO2.out zCap (j : Int) (by omega) (by omega)
      have hce := kCap_openM hM; subst hce
      rw [Int.toNat_natCast] at hcc hfr
      have y0 := hcc 0 _ rfl; replace y0 : w2.cell? ⟨go, j * 2, none⟩ = _ := y0; have f0 := hfr 0; replace f0 : w2.frozen? ⟨go, j * 2, none⟩ = false := f0
      have y1 := hcc 1 _ rfl; replace y1 : w2.cell? ⟨go, j * 2 + 1, none⟩ = _ := y1; have f1 := hfr 1; replace f1 : w2.frozen? ⟨go, j * 2 + 1, none⟩ = false := f1
      have HP := Aside0.mk (Kd.R_seg HO2.out (j : Int) (by omega) (by omega) (seg := [.bool (el zCap l j).reg, .int .i64 (el zCap l j).index]) (j := 0) hcl (by rw [Int.toNat_natCast]; exact hcc) (show 2 ≤ 2 from by decide) (x' := el zCap l j) (kCap_mkM _ _ _ _) (fun _ hk => hk)).1
      have GB := Aside0.mk gb
      clear gb gl hcl hcc hfr hM hb HO HB
      go_wp2
      go_roundw
      case measure => simp [intOf]; omega
      case rel => exact ⟨j + 1, _, by go_num, by omega, by simpa using hn, ⟨fun i hi => by rcases Nat.lt_succ_iff_lt_or_eq.1 hi with h | h; (rw [el_set_ne (by omega)]; exact HE.out i h); subst h; exact el_set_eq (by omega)⟩, HP, ⟨below_set (below_set (HB2.out) GB.out) GB.out⟩⟩
    · have hb2 : ¬ (j : Int) < (l.length : Int) := by omega
      have he : xs = l := el_ext zCap hn (fun i hi => HE.out i (by omega))
      subst he
      go_wp2
      go_ret
      exact ⟨_, rfl, HO.out, HB.out⟩
set_option maxHeartbeats 4000000 in
set_option maxRecDepth 100000 in
theorem toIns (x : Ins) (cs : List Value) (w : World) (hk : kIns.K w x cs) :
    Calls Try.prog 163 #[.agg ⟨cs⟩] w fun e w' => e = .returned (.agg #[.int .i64 x.op, .int .i64 x.a, .int .i64 x.b]) ∧ Below w.heap.size w w' := by
  have e := kIns_open hk; subst e
  have hu := Try.underlying199; have hu2 := Try.underlying76
  have hz : (w.alloc (.cells ⟨[.int .i64 x.op, .int .i64 x.a, .int .i64 x.b]⟩ 199)).heap.size = w.heap.size + 1 := by simp
  go_enter Try.func163, Try.ntmps163
  go_wp2
  refine bodyPost_ret (results_cell_row rfl _ _ (w.heap.size + 1) 76 #[.int .i64 x.op, .int .i64 x.a, .int .i64 x.b] (0, 0) _ rfl (blk_alloc (hz ▸ blk_new _ _) _) hu2 rfl (by kernel_rfl)) rfl ?_
  exact ⟨rfl, below_alloc (below_alloc (below_alloc (Below.refl _ _) _) _) _⟩
set_option maxHeartbeats 4000000 in
set_option maxRecDepth 100000 in
theorem toInsS (A : Option Addr) (c : Nat) (l : List Ins) (w : World) (hr : kIns.C w A l.length l) (hlen : l.length ≤ 1048576) :
    Calls Try.prog 133 #[.slice A l.length c] w fun e w' => ∃ v, e = .returned v ∧ kIns.R 76 w' w.heap.size (fun _ => True) v l ∧ Below w.heap.size w w' := by
  have HR := Aside0.mk hr; clear hr
  have HB := Aside0.mk (Below.refl w.heap.size w)
  have hu := Try.underlying199; have hu2 := Try.underlying76
  go_enter Try.func133, Try.ntmps133
  go_wp2_with (refine Kd.R_make kIns _ 76 rfl (N := _) rfl _ _ _ rfl (l.length : Int) rfl rfl Try.underlying70 (.agg #[.int .i64 0, .int .i64 0, .int .i64 0]) 24 (by kernel_rfl) rfl (by decide) (by omega) zIns (ok := fun _ => True) (okp := fun _ => True) (kIns_mkM _ _ _ zIns ) (fun _ hk => hk) trivial (by omega) (by omega) (Below.refl _ _) (Nat.le_refl _) ?_; intro v1 w1 ho hb hg_ hnew_; clear hg_ hnew_ HB; have HO := Aside0.mk ho; have HB := Aside0.mk hb; clear ho hb)
  go_loopw [4] (fun v wr => ∃ (j : Nat) (xs : List Ins), v = .int .i64 j ∧ j ≤ l.length ∧ xs.length = l.length ∧ Aside0 (∀ i : Nat, i < j → el zIns xs i = el zIns l i) ∧ Aside0 (kIns.R 76 wr w.heap.size (fun _ => True) v1 xs) ∧ Aside0 (Below w.heap.size w wr)) (fun v _ => l.length - (intOf v).toNat)
  case atStart => exact ⟨0, _, rfl, by omega, by simp, ⟨fun i hi => by omega⟩, HO, HB⟩
  case round =>
    clear HO HB
    obtain ⟨j, xs, rfl, hj, hn, HE, HO, HB⟩ := hrel
    by_cases hlt : j < l.length
    · obtain ⟨a, rfl, hk, x0, x1, x2⟩ := Ins_at HR.out j hlt
      replace x0 := (HB.out.cell (World.block_lt_of_cell? w _ x0)).trans x0
      replace x1 := (HB.out.cell (World.block_lt_of_cell? w _ x1)).trans x1
      replace x2 := (HB.out.cell (World.block_lt_of_cell? w _ x2)).trans x2
      have HK := Aside0.mk hk; clear hk
      have hb2 : (j : Int) < (l.length : Int) := by omega
      go_wp2_with fail
      refine (toIns _ _ _ (kIns.K_below HB.out HK.out)).mono ?_
      rintro e w2 ⟨rfl, hb⟩
      have HO2 := Aside0.mk (Kd.R_below HO.out hb); have HB2 := Aside0.mk (below_step HB.out hb)
      obtain ⟨go, co, hv, gb, gl, cl0, HG0⟩ := Kd.R_form HO.out (by omega)
      rw [hn] at hv; subst hv; clear HG0
      obtain ⟨ce, hcl, hM, hcc, hfr⟩ := Kd.R_elem HO2.out zIns (j : Int) (by omega) (by omega)
      have hce := kIns_openM hM; subst hce
      rw [Int.toNat_natCast] at hcc hfr
      have y0 := hcc 0 _ rfl; replace y0 : w2.cell? ⟨go, j * 3, none⟩ = _ := y0; have f0 := hfr 0; replace f0 : w2.frozen? ⟨go, j * 3, none⟩ = false := f0
      have y1 := hcc 1 _ rfl; replace y1 : w2.cell? ⟨go, j * 3 + 1, none⟩ = _ := y1; have f1 := hfr 1; replace f1 : w2.frozen? ⟨go, j * 3 + 1, none⟩ = false := f1
      have y2 := hcc 2 _ rfl; replace y2 : w2.cell? ⟨go, j * 3 + 2, none⟩ = _ := y2; have f2 := hfr 2; replace f2 : w2.frozen? ⟨go, j * 3 + 2, none⟩ = false := f2
      have HP := Aside0.mk (Kd.R_seg HO2.out (j : Int) (by omega) (by omega) (seg := [.int .i64 (el zIns l j).op, .int .i64 (el zIns l j).a, .int .i64 (el zIns l j).b]) (j := 0) hcl (by rw [Int.toNat_natCast]; exact hcc) (show 3 ≤ 3 from by decide) (x' := el zIns l j) (kIns_mkM _ _ _ _) (fun _ hk => hk)).1
      have GB := Aside0.mk gb
      clear gb gl hcl hcc hfr hM hb HO HB
      go_wp2
      go_roundw
      case measure => simp [intOf]; omega
      case rel => exact ⟨j + 1, _, by go_num, by omega, by simpa using hn, ⟨fun i hi => by rcases Nat.lt_succ_iff_lt_or_eq.1 hi with h | h; (rw [el_set_ne (by omega)]; exact HE.out i h); subst h; exact el_set_eq (by omega)⟩, HP, ⟨below_set (below_set (below_set (HB2.out) GB.out) GB.out) GB.out⟩⟩
    · have hb2 : ¬ (j : Int) < (l.length : Int) := by omega
      have he : xs = l := el_ext zIns hn (fun i hi => HE.out i (by omega))
      subst he
      go_wp2
      go_ret
      exact ⟨_, rfl, HO.out, HB.out⟩
set_option maxHeartbeats 4000000 in
set_option maxRecDepth 100000 in
theorem toHandler (x : Handler) (cs : List Value) (w : World) (hk : kHandler.K w x cs) :
    Calls Try.prog 164 #[.agg ⟨cs⟩] w fun e w' => e = .returned (.agg #[.int .i64 x.from_, .int .i64 x.to_, .int .i64 x.target]) ∧ Below w.heap.size w w' := by
  have e := kHandler_open hk; subst e
  have hu := Try.underlying201; have hu2 := Try.underlying107
  have hz : (w.alloc (.cells ⟨[.int .i64 x.from_, .int .i64 x.to_, .int .i64 x.target]⟩ 201)).heap.size = w.heap.size + 1 := by simp
  go_enter Try.func164, Try.ntmps164
  go_wp2
  refine bodyPost_ret (results_cell_row rfl _ _ (w.heap.size + 1) 107 #[.int .i64 x.from_, .int .i64 x.to_, .int .i64 x.target] (0, 0) _ rfl (blk_alloc (hz ▸ blk_new _ _) _) hu2 rfl (by kernel_rfl)) rfl ?_
  exact ⟨rfl, below_alloc (below_alloc (below_alloc (Below.refl _ _) _) _) _⟩
set_option maxHeartbeats 4000000 in
set_option maxRecDepth 100000 in
theorem toHandlerS (A : Option Addr) (c : Nat) (l : List Handler) (w : World) (hr : kHandler.C w A l.length l) (hlen : l.length ≤ 1048576) :
    Calls Try.prog 134 #[.slice A l.length c] w fun e w' => ∃ v, e = .returned v ∧ kHandler.R 107 w' w.heap.size (fun _ => True) v l ∧ Below w.heap.size w w' := by
  have HR := Aside0.mk hr; clear hr
  have HB := Aside0.mk (Below.refl w.heap.size w)
  have hu := Try.underlying201; have hu2 := Try.underlying107
  go_enter Try.func134, Try.ntmps134
  go_wp2_with (refine Kd.R_make kHandler _ 107 rfl (N := _) rfl _ _ _ rfl (l.length : Int) rfl rfl Try.underlying71 (.agg #[.int .i64 0, .int .i64 0, .int .i64 0]) 24 (by kernel_rfl) rfl (by decide) (by omega) zHandler (ok := fun _ => True) (okp := fun _ => True) (kHandler_mkM _ _ _ zHandler ) (fun _ hk => hk) trivial (by omega) (by omega) (Below.refl _ _) (Nat.le_refl _) ?_; intro v1 w1 ho hb hg_ hnew_; clear hg_ hnew_ HB; have HO := Aside0.mk ho; have HB := Aside0.mk hb; clear ho hb)
  go_loopw [4] (fun v wr => ∃ (j : Nat) (xs : List Handler), v = .int .i64 j ∧ j ≤ l.length ∧ xs.length = l.length ∧ Aside0 (∀ i : Nat, i < j → el zHandler xs i = el zHandler l i) ∧ Aside0 (kHandler.R 107 wr w.heap.size (fun _ => True) v1 xs) ∧ Aside0 (Below w.heap.size w wr)) (fun v _ => l.length - (intOf v).toNat)
  case atStart => exact ⟨0, _, rfl, by omega, by simp, ⟨fun i hi => by omega⟩, HO, HB⟩
  case round =>
    clear HO HB
    obtain ⟨j, xs, rfl, hj, hn, HE, HO, HB⟩ := hrel
    by_cases hlt : j < l.length
    · obtain ⟨a, rfl, hk, x0, x1, x2⟩ := Handler_at HR.out j hlt
      replace x0 := (HB.out.cell (World.block_lt_of_cell? w _ x0)).trans x0
      replace x1 := (HB.out.cell (World.block_lt_of_cell? w _ x1)).trans x1
      replace x2 := (HB.out.cell (World.block_lt_of_cell? w _ x2)).trans x2
      have HK := Aside0.mk hk; clear hk
      have hb2 : (j : Int) < (l.length : Int) := by omega
      go_wp2_with fail
      refine (toHandler _ _ _ (kHandler.K_below HB.out HK.out)).mono ?_
      rintro e w2 ⟨rfl, hb⟩
      have HO2 := Aside0.mk (Kd.R_below HO.out hb); have HB2 := Aside0.mk (below_step HB.out hb)
      obtain ⟨go, co, hv, gb, gl, cl0, HG0⟩ := Kd.R_form HO.out (by omega)
      rw [hn] at hv; subst hv; clear HG0
      obtain ⟨ce, hcl, hM, hcc, hfr⟩ := Kd.R_elem HO2.out zHandler (j : Int) (by omega) (by omega)
      have hce := kHandler_openM hM; subst hce
      rw [Int.toNat_natCast] at hcc hfr
      have y0 := hcc 0 _ rfl; replace y0 : w2.cell? ⟨go, j * 3, none⟩ = _ := y0; have f0 := hfr 0; replace f0 : w2.frozen? ⟨go, j * 3, none⟩ = false := f0
      have y1 := hcc 1 _ rfl; replace y1 : w2.cell? ⟨go, j * 3 + 1, none⟩ = _ := y1; have f1 := hfr 1; replace f1 : w2.frozen? ⟨go, j * 3 + 1, none⟩ = false := f1
      have y2 := hcc 2 _ rfl; replace y2 : w2.cell? ⟨go, j * 3 + 2, none⟩ = _ := y2; have f2 := hfr 2; replace f2 : w2.frozen? ⟨go, j * 3 + 2, none⟩ = false := f2
      have HP := Aside0.mk (Kd.R_seg HO2.out (j : Int) (by omega) (by omega) (seg := [.int .i64 (el zHandler l j).from_, .int .i64 (el zHandler l j).to_, .int .i64 (el zHandler l j).target]) (j := 0) hcl (by rw [Int.toNat_natCast]; exact hcc) (show 3 ≤ 3 from by decide) (x' := el zHandler l j) (kHandler_mkM _ _ _ _) (fun _ hk => hk)).1
      have GB := Aside0.mk gb
      clear gb gl hcl hcc hfr hM hb HO HB
      go_wp2
      go_roundw
      case measure => simp [intOf]; omega
      case rel => exact ⟨j + 1, _, by go_num, by omega, by simpa using hn, ⟨fun i hi => by rcases Nat.lt_succ_iff_lt_or_eq.1 hi with h | h; (rw [el_set_ne (by omega)]; exact HE.out i h); subst h; exact el_set_eq (by omega)⟩, HP, ⟨below_set (below_set (below_set (HB2.out) GB.out) GB.out) GB.out⟩⟩
    · have hb2 : ¬ (j : Int) < (l.length : Int) := by omega
      have he : xs = l := el_ext zHandler hn (fun i hi => HE.out i (by omega))
      subst he
      go_wp2
      go_ret
      exact ⟨_, rfl, HO.out, HB.out⟩
set_option maxHeartbeats 4000000 in
set_option maxRecDepth 100000 in
theorem toConst (x : Const) (cs : List Value) (w : World) (hk : kConst.K w x cs) :
    Calls Try.prog 98 #[.agg ⟨cs⟩] w fun e w' => e = .returned (.agg #[.int .i64 x.kind, .int .u64 x.num, .string x.text]) ∧ Below w.heap.size w w' := by
  have e := kConst_open hk; subst e
  have hu := Try.underlying131; have hu2 := Try.underlying100
  have hz : (w.alloc (.cells ⟨[.int .i64 x.kind, .int .u64 x.num, .string x.text]⟩ 131)).heap.size = w.heap.size + 1 := by simp
  go_enter Try.func98, Try.ntmps98
  go_wp2
  refine bodyPost_ret (results_cell_row rfl _ _ (w.heap.size + 1) 100 #[.int .i64 x.kind, .int .u64 x.num, .string x.text] (0, 0) _ rfl (blk_alloc (hz ▸ blk_new _ _) _) hu2 rfl (by kernel_rfl)) rfl ?_
  exact ⟨rfl, below_alloc (below_alloc (below_alloc (Below.refl _ _) _) _) _⟩
set_option maxHeartbeats 4000000 in
set_option maxRecDepth 100000 in
theorem toConstS (A : Option Addr) (c : Nat) (l : List Const) (w : World) (hr : kConst.C w A l.length l) (hlen : l.length ≤ 1048576) :
    Calls Try.prog 57 #[.slice A l.length c] w fun e w' => ∃ v, e = .returned v ∧ kConst.R 100 w' w.heap.size (fun _ => True) v l ∧ Below w.heap.size w w' := by
  have HR := Aside0.mk hr; clear hr
  have HB := Aside0.mk (Below.refl w.heap.size w)
  have hu := Try.underlying131; have hu2 := Try.underlying100
  go_enter Try.func57, Try.ntmps57
  go_wp2_with (refine Kd.R_make kConst _ 100 rfl (N := _) rfl _ _ _ rfl (l.length : Int) rfl rfl Try.underlying35 (.agg #[.int .i64 0, .int .u64 0, .string (⟨#[]⟩ : ByteArray)]) 32 (by kernel_rfl) rfl (by decide) (by omega) zConst (ok := fun _ => True) (okp := fun _ => True) (kConst_mkM _ _ _ zConst ) (fun _ hk => hk) trivial (by omega) (by omega) (Below.refl _ _) (Nat.le_refl _) ?_; intro v1 w1 ho hb hg_ hnew_; clear hg_ hnew_ HB; have HO := Aside0.mk ho; have HB := Aside0.mk hb; clear ho hb)
  go_loopw [4] (fun v wr => ∃ (j : Nat) (xs : List Const), v = .int .i64 j ∧ j ≤ l.length ∧ xs.length = l.length ∧ Aside0 (∀ i : Nat, i < j → el zConst xs i = el zConst l i) ∧ Aside0 (kConst.R 100 wr w.heap.size (fun _ => True) v1 xs) ∧ Aside0 (Below w.heap.size w wr)) (fun v _ => l.length - (intOf v).toNat)
  case atStart => exact ⟨0, _, rfl, by omega, by simp, ⟨fun i hi => by omega⟩, HO, HB⟩
  case round =>
    clear HO HB
    obtain ⟨j, xs, rfl, hj, hn, HE, HO, HB⟩ := hrel
    by_cases hlt : j < l.length
    · obtain ⟨a, rfl, hk, x0, x1, x2⟩ := Const_at HR.out j hlt
      replace x0 := (HB.out.cell (World.block_lt_of_cell? w _ x0)).trans x0
      replace x1 := (HB.out.cell (World.block_lt_of_cell? w _ x1)).trans x1
      replace x2 := (HB.out.cell (World.block_lt_of_cell? w _ x2)).trans x2
      have HK := Aside0.mk hk; clear hk
      have hb2 : (j : Int) < (l.length : Int) := by omega
      go_wp2_with fail
      refine (toConst _ _ _ (kConst.K_below HB.out HK.out)).mono ?_
      rintro e w2 ⟨rfl, hb⟩
      have HO2 := Aside0.mk (Kd.R_below HO.out hb); have HB2 := Aside0.mk (below_step HB.out hb)
      obtain ⟨go, co, hv, gb, gl, cl0, HG0⟩ := Kd.R_form HO.out (by omega)
      rw [hn] at hv; subst hv; clear HG0
      obtain ⟨ce, hcl, hM, hcc, hfr⟩ := Kd.R_elem HO2.out zConst (j : Int) (by omega) (by omega)
      have hce := kConst_openM hM; subst hce
      rw [Int.toNat_natCast] at hcc hfr
      have y0 := hcc 0 _ rfl; replace y0 : w2.cell? ⟨go, j * 3, none⟩ = _ := y0; have f0 := hfr 0; replace f0 : w2.frozen? ⟨go, j * 3, none⟩ = false := f0
      have y1 := hcc 1 _ rfl; replace y1 : w2.cell? ⟨go, j * 3 + 1, none⟩ = _ := y1; have f1 := hfr 1; replace f1 : w2.frozen? ⟨go, j * 3 + 1, none⟩ = false := f1
      have y2 := hcc 2 _ rfl; replace y2 : w2.cell? ⟨go, j * 3 + 2, none⟩ = _ := y2; have f2 := hfr 2; replace f2 : w2.frozen? ⟨go, j * 3 + 2, none⟩ = false := f2
      have HP := Aside0.mk (Kd.R_seg HO2.out (j : Int) (by omega) (by omega) (seg := [.int .i64 (el zConst l j).kind, .int .u64 (el zConst l j).num, .string (el zConst l j).text]) (j := 0) hcl (by rw [Int.toNat_natCast]; exact hcc) (show 3 ≤ 3 from by decide) (x' := el zConst l j) (kConst_mkM _ _ _ _) (fun _ hk => hk)).1
      have GB := Aside0.mk gb
      clear gb gl hcl hcc hfr hM hb HO HB
      go_wp2
      go_roundw
      case measure => simp [intOf]; omega
      case rel => exact ⟨j + 1, _, by go_num, by omega, by simpa using hn, ⟨fun i hi => by rcases Nat.lt_succ_iff_lt_or_eq.1 hi with h | h; (rw [el_set_ne (by omega)]; exact HE.out i h); subst h; exact el_set_eq (by omega)⟩, HP, ⟨below_set (below_set (below_set (HB2.out) GB.out) GB.out) GB.out⟩⟩
    · have hb2 : ¬ (j : Int) < (l.length : Int) := by omega
      have he : xs = l := el_ext zConst hn (fun i hi => HE.out i (by omega))
      subst he
      go_wp2
      go_ret
      exact ⟨_, rfl, HO.out, HB.out⟩
def LenFunc (x : Func) : Prop := x.caps.length ≤ 1048576 ∧ x.code.length ≤ 1048576 ∧ x.handlers.length ≤ 1048576
set_option maxHeartbeats 4000000 in
set_option maxRecDepth 100000 in
theorem toFunc (x : Func) (cs : List Value) (w : World) (hk : kFuncL.K w x cs) (hl : LenFunc x) :
    Calls Try.prog 97 #[.agg ⟨cs⟩] w fun e w' => ∃ ds, e = .returned (.agg ⟨ds⟩) ∧ kFuncI.M w' w.heap.size (fun _ => True) x ds ∧ Below w.heap.size w w' := by
  obtain ⟨pA2, pc2, pA3, pc3, pA4, pc4, rfl, pl2, pg2, pl3, pg3, pl4, pg4⟩ := kFuncL_open hk
  have pG2 := Aside0.mk pg2; clear pg2 pl2
  have pG3 := Aside0.mk pg3; clear pg3 pl3
  have pG4 := Aside0.mk pg4; clear pg4 pl4
  clear hk; unfold LenFunc at hl
  have HL := Aside0.mk hl; clear hl
  have hu := Try.underlying129; have hu2 := Try.underlying73
  have M0 := Aside0.mk ((((Mem.start w).allocAt rfl #[.int .i64 x.params, .int .i64 x.regs, .slice pA2 x.caps.length pc2, .slice pA3 x.code.length pc3, .slice pA4 x.handlers.length pc4] 129).allocAt (g := (w.heap.size + 1)) (by simp) #[.int .i64 0, .int .i64 0, .slice none 0 0, .slice none 0 0, .slice none 0 0] 73).allocAt (g := (w.heap.size + 1 + 1)) (by simp) #[.int .i64 x.params, .int .i64 x.regs, .slice none 0 0, .slice none 0 0, .slice none 0 0] 73)
  go_enter Try.func97, Try.ntmps97
  go_wp2_with fail
  refine (toCapS _ _ x.caps _ (Kd.C_below pG2.out M0.out.below) HL.out.1).mono ?_
  rintro e w2 ⟨v, rfl, ho, hb⟩; obtain ⟨vA2, vc2, rfl⟩ := Kd.R_slice ho
  have N2 := Aside0.mk (M0.out.pushR hb ho); clear ho hb M0
  have M3 := Aside0.mk (Mem.set (A := [_]) N2.out 2 (.slice vA2 x.caps.length vc2) (cs' := #[.int .i64 x.params, .int .i64 x.regs, .slice vA2 x.caps.length vc2, .slice none 0 0, .slice none 0 0]) rfl)
  have za := N2.out.box (.tail _ (.tail _ (.tail _ (.head _)))); have zo := N2.out.box (.tail _ (.head _)); have fo := N2.out.free (.tail _ (.head _)); have zr := N2.out.box (.tail _ (.tail _ (.head _))); have fr := N2.out.free (.tail _ (.tail _ (.head _)))
  go_wp2_with fail
  clear za zo fo zr fr N2
  refine (toInsS _ _ x.code _ (Kd.C_below pG3.out M3.out.below) HL.out.2.1).mono ?_
  rintro e w3 ⟨v, rfl, ho, hb⟩; obtain ⟨vA3, vc3, rfl⟩ := Kd.R_slice ho
  have N3 := Aside0.mk (M3.out.pushR hb ho); clear ho hb M3
  have M4 := Aside0.mk (Mem.set (A := [_, _]) N3.out 3 (.slice vA3 x.code.length vc3) (cs' := #[.int .i64 x.params, .int .i64 x.regs, .slice vA2 x.caps.length vc2, .slice vA3 x.code.length vc3, .slice none 0 0]) rfl)
  have za := N3.out.box (.tail _ (.tail _ (.tail _ (.tail _ (.head _))))); have zo := N3.out.box (.tail _ (.tail _ (.head _))); have fo := N3.out.free (.tail _ (.tail _ (.head _))); have zr := N3.out.box (.tail _ (.tail _ (.tail _ (.head _)))); have fr := N3.out.free (.tail _ (.tail _ (.tail _ (.head _))))
  go_wp2_with fail
  clear za zo fo zr fr N3
  refine (toHandlerS _ _ x.handlers _ (Kd.C_below pG4.out M4.out.below) HL.out.2.2).mono ?_
  rintro e w4 ⟨v, rfl, ho, hb⟩; obtain ⟨vA4, vc4, rfl⟩ := Kd.R_slice ho
  have N4 := Aside0.mk (M4.out.pushR hb ho); clear ho hb M4
  have M5 := Aside0.mk (Mem.set (A := [_, _, _]) N4.out 4 (.slice vA4 x.handlers.length vc4) (cs' := #[.int .i64 x.params, .int .i64 x.regs, .slice vA2 x.caps.length vc2, .slice vA3 x.code.length vc3, .slice vA4 x.handlers.length vc4]) rfl)
  have za := N4.out.box (.tail _ (.tail _ (.tail _ (.tail _ (.tail _ (.head _)))))); have zo := N4.out.box (.tail _ (.tail _ (.tail _ (.head _)))); have fo := N4.out.free (.tail _ (.tail _ (.tail _ (.head _)))); have zr := N4.out.box (.tail _ (.tail _ (.tail _ (.tail _ (.head _))))); have fr := N4.out.free (.tail _ (.tail _ (.tail _ (.tail _ (.head _)))))
  go_wp2
  have Z0 := Aside0.mk (Mem.set (A := [_, _, _, _]) M5.out 0 (.int .i64 x.params) (cs' := #[.int .i64 x.params, .int .i64 0, .slice none 0 0, .slice none 0 0, .slice none 0 0]) rfl); clear M5
  have Z1 := Aside0.mk (Mem.set (A := [_, _, _, _]) Z0.out 1 (.int .i64 x.regs) (cs' := #[.int .i64 x.params, .int .i64 x.regs, .slice none 0 0, .slice none 0 0, .slice none 0 0]) rfl); clear Z0
  have Z2 := Aside0.mk (Mem.set (A := [_, _, _, _]) Z1.out 2 (.slice vA2 x.caps.length vc2) (cs' := #[.int .i64 x.params, .int .i64 x.regs, .slice vA2 x.caps.length vc2, .slice none 0 0, .slice none 0 0]) rfl); clear Z1
  have Z3 := Aside0.mk (Mem.set (A := [_, _, _, _]) Z2.out 3 (.slice vA3 x.code.length vc3) (cs' := #[.int .i64 x.params, .int .i64 x.regs, .slice vA2 x.caps.length vc2, .slice vA3 x.code.length vc3, .slice none 0 0]) rfl); clear Z2
  have Z4 := Aside0.mk (Mem.set (A := [_, _, _, _]) Z3.out 4 (.slice vA4 x.handlers.length vc4) (cs' := #[.int .i64 x.params, .int .i64 x.regs, .slice vA2 x.caps.length vc2, .slice vA3 x.code.length vc3, .slice vA4 x.handlers.length vc4]) rfl); clear Z3
  refine bodyPost_ret (results_cell_row rfl _ _ (w.heap.size + 1) 73 #[.int .i64 x.params, .int .i64 x.regs, .slice vA2 x.caps.length vc2, .slice vA3 x.code.length vc3, .slice vA4 x.handlers.length vc4] (0, 0) _ rfl (Z4.out.blk (.tail _ (.tail _ (.tail _ (.tail _ (.head _)))))) hu2 rfl (by kernel_rfl)) rfl ?_
  exact ⟨_, rfl, kFuncI_mkM _ _ _ x (Z4.out.rowT (.tail _ (.tail _ (.head _)))) (Z4.out.rowT (.tail _ (.head _))) (Z4.out.rowT (.head _)), Z4.out.below⟩
set_option maxHeartbeats 4000000 in
set_option maxRecDepth 100000 in
theorem toFuncS (A : Option Addr) (c : Nat) (l : List Func) (w : World) (hr : kFuncL.C w A l.length l) (hlen : l.length ≤ 1048576) (hl : ∀ y ∈ l, LenFunc y) :
    Calls Try.prog 56 #[.slice A l.length c] w fun e w' => ∃ v, e = .returned v ∧ kFuncI.R 73 w' w.heap.size (fun _ => True) v l ∧ Below w.heap.size w w' := by
  have HR := Aside0.mk hr; clear hr
  have HL := Aside0.mk hl; clear hl
  have HB := Aside0.mk (Below.refl w.heap.size w)
  have hu := Try.underlying129; have hu2 := Try.underlying73
  go_enter Try.func56, Try.ntmps56
  go_wp2_with (refine Kd.R_make kFuncI _ 73 rfl (N := _) rfl _ _ _ rfl (l.length : Int) rfl rfl Try.underlying34 (.agg #[.int .i64 0, .int .i64 0, .slice none 0 0, .slice none 0 0, .slice none 0 0]) 88 (by kernel_rfl) rfl (by decide) (by omega) zFunc (ok := fun _ => True) (okp := fun _ => True) (kFuncI_mkM _ _ _ zFunc (Kd.R_nil _ _ _ _ _) (Kd.R_nil _ _ _ _ _) (Kd.R_nil _ _ _ _ _)) (fun _ hk => hk) trivial (by omega) (by omega) (Below.refl _ _) (Nat.le_refl _) ?_; intro v1 w1 ho hb hg_ hnew_; clear hg_ hnew_ HB; have HO := Aside0.mk ho; have HB := Aside0.mk hb; clear ho hb)
  go_loopw [4] (fun v wr => ∃ (j : Nat) (xs : List Func), v = .int .i64 j ∧ j ≤ l.length ∧ xs.length = l.length ∧ Aside0 (∀ i : Nat, i < j → el zFunc xs i = el zFunc l i) ∧ Aside0 (kFuncI.R 73 wr w.heap.size (fun _ => True) v1 xs) ∧ Aside0 (Below w.heap.size w wr)) (fun v _ => l.length - (intOf v).toNat)
  case atStart => exact ⟨0, _, rfl, by omega, by simp, ⟨fun i hi => by omega⟩, HO, HB⟩
  case round =>
    clear HO HB
    obtain ⟨j, xs, rfl, hj, hn, HE, HO, HB⟩ := hrel
    by_cases hlt : j < l.length
    · obtain ⟨a, qA2, qc2, qA3, qc3, qA4, qc4, rfl, hk, x0, x1, x2, x3, x4⟩ := FuncL_at HR.out j hlt
      replace x0 := (HB.out.cell (World.block_lt_of_cell? w _ x0)).trans x0
      replace x1 := (HB.out.cell (World.block_lt_of_cell? w _ x1)).trans x1
      replace x2 := (HB.out.cell (World.block_lt_of_cell? w _ x2)).trans x2
      replace x3 := (HB.out.cell (World.block_lt_of_cell? w _ x3)).trans x3
      replace x4 := (HB.out.cell (World.block_lt_of_cell? w _ x4)).trans x4
      have HK := Aside0.mk hk; clear hk
      have hb2 : (j : Int) < (l.length : Int) := by omega
      go_wp2_with fail
      refine (toFunc _ _ _ (kFuncL.K_below HB.out HK.out) (HL.out _ (el_mem zFunc hlt))).mono ?_
      rintro e w2 ⟨ds, rfl, hm, hb⟩
      have HO2 := Aside0.mk (Kd.R_below HO.out hb); have HB2 := Aside0.mk (below_step HB.out hb)
      obtain ⟨go, co, hv, gb, gl, cl0, HG0⟩ := Kd.R_form HO.out (by omega)
      rw [hn] at hv; subst hv; clear HG0
      obtain ⟨ce, hcl, hM, hcc, hfr⟩ := Kd.R_elem HO2.out zFunc (j : Int) (by omega) (by omega)
      obtain ⟨u2, u3, u4, rfl, _, _, _⟩ := kFuncI_openM hM
      obtain ⟨t2, t3, t4, rfl, r2, r3, r4⟩ := kFuncI_openM hm
      obtain ⟨tA2, tc2, rfl⟩ := Kd.R_slice r2
      obtain ⟨tA3, tc3, rfl⟩ := Kd.R_slice r3
      obtain ⟨tA4, tc4, rfl⟩ := Kd.R_slice r4
      clear r2 r3 r4
      rw [Int.toNat_natCast] at hcc hfr
      have y0 := hcc 0 _ rfl; replace y0 : w2.cell? ⟨go, j * 5, none⟩ = _ := y0; have f0 := hfr 0; replace f0 : w2.frozen? ⟨go, j * 5, none⟩ = false := f0
      have y1 := hcc 1 _ rfl; replace y1 : w2.cell? ⟨go, j * 5 + 1, none⟩ = _ := y1; have f1 := hfr 1; replace f1 : w2.frozen? ⟨go, j * 5 + 1, none⟩ = false := f1
      have y2 := hcc 2 _ rfl; replace y2 : w2.cell? ⟨go, j * 5 + 2, none⟩ = _ := y2; have f2 := hfr 2; replace f2 : w2.frozen? ⟨go, j * 5 + 2, none⟩ = false := f2
      have y3 := hcc 3 _ rfl; replace y3 : w2.cell? ⟨go, j * 5 + 3, none⟩ = _ := y3; have f3 := hfr 3; replace f3 : w2.frozen? ⟨go, j * 5 + 3, none⟩ = false := f3
      have y4 := hcc 4 _ rfl; replace y4 : w2.cell? ⟨go, j * 5 + 4, none⟩ = _ := y4; have f4 := hfr 4; replace f4 : w2.frozen? ⟨go, j * 5 + 4, none⟩ = false := f4
      have kk := kFuncI.M_bound hm
      have HP := Aside0.mk (Kd.R_seg HO2.out (j : Int) (by omega) (by omega) (seg := [.int .i64 (el zFunc l j).params, .int .i64 (el zFunc l j).regs, .slice tA2 (el zFunc l j).caps.length tc2, .slice tA3 (el zFunc l j).code.length tc3, .slice tA4 (el zFunc l j).handlers.length tc4]) (j := 0) hcl (by rw [Int.toNat_natCast]; exact hcc) (show 5 ≤ 5 from by decide) (x' := el zFunc l j) (kFuncI.M_lower HB.out.size kk) (fun k hk => ⟨trivial, fun h => by have := hk.2.1; omega⟩)).1
      clear kk hm
      have GB := Aside0.mk gb
      clear gb gl hcl hcc hfr hM hb HO HB
      go_wp2
      go_roundw
      case measure => simp [intOf]; omega
      case rel => exact ⟨j + 1, _, by go_num, by omega, by simpa using hn, ⟨fun i hi => by rcases Nat.lt_succ_iff_lt_or_eq.1 hi with h | h; (rw [el_set_ne (by omega)]; exact HE.out i h); subst h; exact el_set_eq (by omega)⟩, HP, ⟨below_set (below_set (below_set (below_set (below_set (HB2.out) GB.out) GB.out) GB.out) GB.out) GB.out⟩⟩
    · have hb2 : ¬ (j : Int) < (l.length : Int) := by omega
      have he : xs = l := el_ext zFunc hn (fun i hi => HE.out i (by omega))
      subst he
      go_wp2
      go_ret
      exact ⟨_, rfl, HO.out, HB.out⟩
def LenImage (x : Image) : Prop := x.funcs.length ≤ 1048576 ∧ (∀ y ∈ x.funcs, LenFunc y) ∧ x.consts.length ≤ 1048576
set_option maxHeartbeats 4000000 in
set_option maxRecDepth 100000 in
theorem toImage (x : Image) (cs : List Value) (w : World) (hk : kImageL.K w x cs) (hl : LenImage x) :
    Calls Try.prog 15 #[.agg ⟨cs⟩] w fun e w' => ∃ ds, e = .returned (.agg ⟨ds⟩) ∧ kImageI.M w' w.heap.size (fun _ => True) x ds ∧ Below w.heap.size w w' := by
  obtain ⟨pA0, pc0, pA1, pc1, rfl, pl0, pg0, pl1, pg1⟩ := kImageL_open hk
  have pG0 := Aside0.mk pg0; clear pg0 pl0
  have pG1 := Aside0.mk pg1; clear pg1 pl1
  clear hk; unfold LenImage at hl
  have HL := Aside0.mk hl; clear hl
  have hu := Try.underlying25; have hu2 := Try.underlying37
  have M0 := Aside0.mk ((((Mem.start w).allocAt rfl #[.slice pA0 x.funcs.length pc0, .slice pA1 x.consts.length pc1] 25).allocAt (g := (w.heap.size + 1)) (by simp) #[.slice none 0 0, .slice none 0 0] 37).allocAt (g := (w.heap.size + 1 + 1)) (by simp) #[.slice none 0 0, .slice none 0 0] 37)
  go_enter Try.func15, Try.ntmps15
  go_wp2_with fail
  refine (toFuncS _ _ x.funcs _ (Kd.C_below pG0.out M0.out.below) HL.out.1 HL.out.2.1).mono ?_
  rintro e w0 ⟨v, rfl, ho, hb⟩; obtain ⟨vA0, vc0, rfl⟩ := Kd.R_slice ho
  have N0 := Aside0.mk (M0.out.pushR hb ho); clear ho hb M0
  have M1 := Aside0.mk (Mem.set (A := [_]) N0.out 0 (.slice vA0 x.funcs.length vc0) (cs' := #[.slice vA0 x.funcs.length vc0, .slice none 0 0]) rfl)
  have za := N0.out.box (.tail _ (.tail _ (.tail _ (.head _)))); have zo := N0.out.box (.tail _ (.head _)); have fo := N0.out.free (.tail _ (.head _)); have zr := N0.out.box (.tail _ (.tail _ (.head _))); have fr := N0.out.free (.tail _ (.tail _ (.head _)))
  go_wp2_with fail
  clear za zo fo zr fr N0
  refine (toConstS _ _ x.consts _ (Kd.C_below pG1.out M1.out.below) HL.out.2.2).mono ?_
  rintro e w1 ⟨v, rfl, ho, hb⟩; obtain ⟨vA1, vc1, rfl⟩ := Kd.R_slice ho
  have N1 := Aside0.mk (M1.out.pushR hb ho); clear ho hb M1
  have M2 := Aside0.mk (Mem.set (A := [_, _]) N1.out 1 (.slice vA1 x.consts.length vc1) (cs' := #[.slice vA0 x.funcs.length vc0, .slice vA1 x.consts.length vc1]) rfl)
  have za := N1.out.box (.tail _ (.tail _ (.tail _ (.tail _ (.head _))))); have zo := N1.out.box (.tail _ (.tail _ (.head _))); have fo := N1.out.free (.tail _ (.tail _ (.head _))); have zr := N1.out.box (.tail _ (.tail _ (.tail _ (.head _)))); have fr := N1.out.free (.tail _ (.tail _ (.tail _ (.head _))))
  go_wp2
  have Z0 := Aside0.mk (Mem.set (A := [_, _, _]) M2.out 0 (.slice vA0 x.funcs.length vc0) (cs' := #[.slice vA0 x.funcs.length vc0, .slice none 0 0]) rfl); clear M2
  have Z1 := Aside0.mk (Mem.set (A := [_, _, _]) Z0.out 1 (.slice vA1 x.consts.length vc1) (cs' := #[.slice vA0 x.funcs.length vc0, .slice vA1 x.consts.length vc1]) rfl); clear Z0
  refine bodyPost_ret (results_cell_row rfl _ _ (w.heap.size + 1) 37 #[.slice vA0 x.funcs.length vc0, .slice vA1 x.consts.length vc1] (0, 0) _ rfl (Z1.out.blk (.tail _ (.tail _ (.tail _ (.head _))))) hu2 rfl (by kernel_rfl)) rfl ?_
  exact ⟨_, rfl, kImageI_mkM _ _ _ x (Z1.out.rowT (.tail _ (.head _))) (Z1.out.rowT (.head _)), Z1.out.below⟩
end Go.Proofs.Ytcbaokflimdjnaa
end
section
namespace Go.Proofs.Ytcbaokflimdjnaa.LawFnExactVerify
open Go.RowKit Go.Proofs.YtcbaokflimdjnaaW.PrintWords Go.Proofs.YtcbaokflimdjnaaW.PrintMore Go.Proofs.Ytcbaokflimdjnaa.Law Go.Proofs.Ytcbaokflimdjnaa.Num Go.Proofs.Ytcbaokflimdjnaa Go.Proofs.Ytcbaokflimdjnaa.Flow
set_option linter.unusedVariables false
set_option linter.unusedSimpArgs false
set_option autoImplicit false
set_option maxHeartbeats 8000000 in
set_option maxRecDepth 100000 in
theorem w1 (x : Image) (A0 A1 : Option Addr) (c0 c1 : Nat) (w : World) (hx : kImageL.K w x [.slice A0 x.funcs.length c0, .slice A1 x.consts.length c1]) (gx : GoodImage x) (e1 : sub 1048576 (sizeImage x) = -1) :
    Calls Try.prog 4 #[.agg #[.slice A0 x.funcs.length c0, .slice A1 x.consts.length c1]] w fun e w' => e = .returned (.bool true) ∧ Below w.heap.size w w' := by
  have hu := Try.underlying25; have hu2 := Try.underlying37
  have HX := Aside0.mk hx; clear hx
  have M0 := Aside0.mk ((Mem.start w).allocAt rfl #[.slice A0 x.funcs.length c0, .slice A1 x.consts.length c1] 25)
  go_enter Try.func4, Try.ntmps4
  go_wp2_with fail
  have C := szImage x _ 1048576 _ (M0.out.old HX.out) gx (by omega) (by omega)
  rw [e1] at C
  refine C.mono ?_; clear C
  rintro e w1 ⟨rfl, hb⟩
  have M1 := Aside0.mk (M0.out.step hb); clear M0 hb; have z0 := M1.out.box (.head _)
  go_wp2
  go_ret
  exact ⟨rfl, M1.out.below⟩
set_option maxHeartbeats 8000000 in
set_option maxRecDepth 100000 in
theorem w2 (x : Image) (A0 A1 : Option Addr) (c0 c1 : Nat) (w : World) (hx : kImageL.K w x [.slice A0 x.funcs.length c0, .slice A1 x.consts.length c1]) (gx : GoodImage x) (s1 : Int) (e1 : sub 1048576 (sizeImage x) = s1) (n1 : 0 ≤ s1) (hlx : LenImage x) (hn : ∀ y ∈ x.consts, 0 ≤ y.num ∧ y.num < 18446744073709551616) :
    Calls Try.prog 4 #[.agg #[.slice A0 x.funcs.length c0, .slice A1 x.consts.length c1]] w fun e w' => e = .returned (.bool true) ∧ Below w.heap.size w w' := by
  have hu := Try.underlying25; have hu2 := Try.underlying37
  have HX := Aside0.mk hx; have HLX := Aside0.mk hlx; have HN := Aside0.mk hn; clear hx hlx hn
  obtain ⟨s, hs⟩ : ∃ s, s = verI x := ⟨_, rfl⟩
  have HS := Aside0.mk hs; clear hs
  have hr1 : (s != s) = false := by simp
  have M0 := Aside0.mk ((Mem.start w).allocAt rfl #[.slice A0 x.funcs.length c0, .slice A1 x.consts.length c1] 25)
  go_enter Try.func4, Try.ntmps4
  go_wp2_with fail
  have C := szImage x _ 1048576 _ (M0.out.old HX.out) gx (by omega) (by omega)
  rw [e1] at C
  refine C.mono ?_; clear C
  rintro e w1 ⟨rfl, hb⟩
  have M1 := Aside0.mk (M0.out.step hb); clear M0 hb; have z0 := M1.out.box (.head _)
  have m1 : decide (s1 < 0) = false := by simp; omega
  go_wp2_with fail
  clear z0
  refine (toImage x _ _ (M1.out.old HX.out) HLX.out).mono ?_; rintro e w2 ⟨ds, rfl, hm, hb⟩; obtain ⟨q0, d0, q1, d1, rfl, i0, j0, i1, j1⟩ := kImageI_open (kImageI.K_of_M hm)
  have M2 := Aside0.mk (M1.out.push hb hm); clear hm hb M1
  have I0 := Aside0.mk i0; have J0 := Aside0.mk j0; have I1 := Aside0.mk i1; have J1 := Aside0.mk j1; clear i0 j0 i1 j1
  have z0 := M2.out.box (.tail _ (.head _))
  go_wp2_with fail
  clear z0
  refine (cVerS x _ _ _ _ _ I0.out J0.out I1.out J1.out HN.out).mono ?_; rintro e w3 ⟨rfl, hb⟩
  have M3 := Aside0.mk ((M2.out.step hb).drop); clear hb M2 I0 J0 I1 J1
  rw [← HS.out]
  have z0 := M3.out.box (.head _)
  go_wp2_with fail
  clear z0
  refine (toImage x _ _ (M3.out.old HX.out) HLX.out).mono ?_; rintro e w4 ⟨ds, rfl, hm, hb⟩; obtain ⟨q2, d2, q3, d3, rfl, i0, j0, i1, j1⟩ := kImageI_open (kImageI.K_of_M hm)
  have N4 := Aside0.mk (M3.out.push hb hm); clear hm hb M3 i0 j0 i1 j1
  have M4 := Aside0.mk (N4.out.allocAt rfl #[.slice q2 x.funcs.length d2, .slice q3 x.consts.length d3] 37); clear N4
  have z0 := M4.out.box (.tail _ (.tail _ (.head _))); have z1 := M4.out.box (.head _)
  go_wp2_with fail
  clear z0 z1
  obtain ⟨i0, j0, i1, j1⟩ : x.funcs.length ≤ d2 ∧ kFuncI.C (w4.alloc (.cells #[.slice q2 x.funcs.length d2, .slice q3 x.consts.length d3] 37)) q2 x.funcs.length x.funcs ∧ x.consts.length ≤ d3 ∧ kConst.C (w4.alloc (.cells #[.slice q2 x.funcs.length d2, .slice q3 x.consts.length d3] 37)) q3 x.consts.length x.consts := by
    obtain ⟨q0', d0', q1', d1', h, i0, j0, i1, j1⟩ := kImageI_open (M4.out.read (.tail _ (.head _)))
    cases h
    exact ⟨i0, j0, i1, j1⟩
  refine (cVerI x _ _ _ _ _ i0 j0 i1 j1 HN.out).mono ?_; rintro e w5 ⟨rfl, hb⟩
  have M5 := Aside0.mk (M4.out.step hb); clear hb M4
  rw [← HS.out]
  have z0 := M5.out.box (.tail _ (.tail _ (.head _))); have z1 := M5.out.box (.head _)
  go_wp2_with fail
  have RX := Aside0.mk (M5.out.read (.tail _ (.head _)))
  obtain ⟨L, HL, ML⟩ := Mem.hide M5
  have Ebx := Aside0.mk (show (Hold.box w4.heap.size #[.slice q2 x.funcs.length d2, .slice q3 x.consts.length d3] 37) ∈ L from HL.out ▸ (.head _))
  have EbA := Aside0.mk (show (Hold.box w.heap.size #[.slice A0 x.funcs.length c0, .slice A1 x.consts.length c1] 25) ∈ L from HL.out ▸ (.tail _ (.tail _ (.head _))))
  clear M5 z0 z1
  go_region_held3 (fun W => (∀ o, W.cell? ⟨w4.heap.size, o, none⟩ = (#[.slice q2 x.funcs.length d2, .slice q3 x.consts.length d3] : Array Value)[o]?) ∧ (∀ o, W.cell? ⟨w.heap.size, o, none⟩ = (#[.slice A0 x.funcs.length c0, .slice A1 x.consts.length c1] : Array Value)[o]?) ∧ Mem w W L) (first | exact ⟨(ML.out.drew).box Ebx.out, (ML.out.drew).box EbA.out, ML.out.drew⟩ | exact ⟨(N6.out.drop).box Ebx.out, (N6.out.drop).box EbA.out, N6.out.drop⟩ | exact ⟨(M7.out).box Ebx.out, (M7.out).box EbA.out, M7.out⟩) (first | (go_at_call 15; refine (toImage x _ _ (ML.out.drew.old HX.out) HLX.out).mono ?_; rintro e w6 ⟨ds, rfl, hm, hb⟩; obtain ⟨v0, v1, rfl, hr0, hr1⟩ := kImageI_openM hm; obtain ⟨X0, y0, rfl⟩ := Kd.R_slice hr0; obtain ⟨X1, y1, rfl⟩ := Kd.R_slice hr1; clear hr0 hr1; have N6 := Aside0.mk (ML.out.drew.push hb hm); have RX2 := Aside0.mk (kImageI.K_below (below_step (below_drew1 (Below.refl _ _)) hb) RX.out); clear hm hb) | (go_at_call 19; have C := eqImage x x _ _ _ RX2.out (N6.out.read (.head _)); rw [decide_eq_true rfl] at C; refine C.mono ?_; clear C; rintro e w7 ⟨rfl, hb⟩; have M7 := Aside0.mk ((N6.out.step hb).drop); clear hb))
  clear ML RX RX2 N6
  have hl := HL.out; subst hl; clear HL Ebx EbA
  go_wp2
  go_ret
  exact ⟨rfl, M7.out.below⟩
theorem le_sum {l : List Func} {y : Func} (h : y ∈ l) : sizeFunc y ≤ (l.map sizeFunc).sum := by
  induction l with
  | nil => cases h
  | cons a l ih =>
    rw [List.map_cons, List.sum_cons]
    rcases List.mem_cons.1 h with rfl | h
    · omega
    · have := ih h
      omega
theorem len_ok {x : Image} (h : (sizeImage x : Int) ≤ 1048576) : LenImage x := by
  have e : sizeImage x = x.funcs.length + (x.funcs.map sizeFunc).sum + (x.consts.length + (x.consts.map sizeConst).sum) := rfl
  refine ⟨by omega, fun y hy => ?_, by omega⟩
  have h1 := le_sum hy
  have e2 : sizeFunc y = y.caps.length + y.code.length + y.handlers.length := rfl
  exact ⟨by omega, by omega, by omega⟩
theorem law {GF : Func → Prop} (A0_0 : Option Addr) (c0_0 : Nat) (l0_0 : List Func) (A0_1 : Option Addr) (c0_1 : Nat) (l0_1 : List Const) (w : World)
    (hr0_0 : kFuncL.C w A0_0 l0_0.length l0_0) (hc0_0 : l0_0.length ≤ c0_0) (hr0_1 : kConst.C w A0_1 l0_1.length l0_1) (hc0_1 : l0_1.length ≤ c0_1)
    (g0 : (l0_0.length ≤ maxLen ∧ ∀ x ∈ l0_0, GF x) ∧ (l0_1.length ≤ maxLen ∧ ∀ x ∈ l0_1, (Lit.int .i64 x.kind).wf = true ∧ (Lit.int .u64 x.num).wf = true ∧ x.text.size ≤ maxLen)) :
    Calls Try.prog 4 #[.agg #[.slice A0_0 l0_0.length c0_0, .slice A0_1 l0_1.length c0_1]] w fun e w' => e = .returned (.bool true) ∧ Below w.heap.size w w' := by
  have hx := kImageL_mk w ⟨l0_0, l0_1⟩ hc0_0 hr0_0 hc0_1 hr0_1
  have gx : GoodImage ⟨l0_0, l0_1⟩ := ⟨fun _ _ => trivial, fun y hy => (g0.2.2 y hy).2.2⟩
  by_cases n1 : (1048576 : Int) < (sizeImage ⟨l0_0, l0_1⟩ : Int)
  · exact w1 ⟨l0_0, l0_1⟩ _ _ _ _ w hx gx (by unfold sub; rw [if_pos n1])
  · have e1 : sub 1048576 (sizeImage ⟨l0_0, l0_1⟩) = 1048576 - (sizeImage ⟨l0_0, l0_1⟩ : Int) := by unfold sub; rw [if_neg n1]
    exact w2 ⟨l0_0, l0_1⟩ _ _ _ _ w hx gx _ e1 (by omega) (len_ok (by omega)) (fun y hy => by have h := (g0.2.2 y hy).2.1; exact wf_u64 h)
end Go.Proofs.Ytcbaokflimdjnaa.LawFnExactVerify
end
section
namespace Go.Proofs.Ytcbaokflimdjnaa.Open
open Go.Proofs.YtcbaokflimdjnaaW.PrintWords Go.ChangeShapes Go.WideShapes
section
variable {H : Type} {enc : TypeId × Value → H} {P : Program} {w : World} {base : Nat} {spare : Nat → Bool} {held : Bool}
/-- What reads as a datum at type t reads by the kind d as a value that is G. -/
def Opens {α : Type} (enc : TypeId × Value → H) (P : Program) (w : World) (base : Nat) (spare : Nat → Bool) (held : Bool) (t : TypeId) (d : Kd α) (G : α → Prop) : Prop :=
  ∀ (fuel : Nat) (cs : List Value) (x : DataW H × List MemPlace), DataW.trod enc P w base spare held fuel t cs = some x → ∃ a, d.K w a cs ∧ G a
theorem opens_int {t : TypeId} {k : IntKind} (ht : P.underlying t = some (.int k)) : Opens enc P w base spare held t (Kd.int k) (fun n => (Lit.int k n).wf = true) := by
  intro fuel cs x h
  obtain ⟨n, rfl, _, hw⟩ := DataW.trod_int ht h
  exact ⟨n, rfl, hw⟩
theorem opens_bool {t : TypeId} (ht : P.underlying t = some .bool) : Opens enc P w base spare held t Kd.bool (fun _ => True) := by
  intro fuel cs x h
  obtain ⟨b, rfl, _⟩ := DataW.trod_bool ht h
  exact ⟨b, rfl, trivial⟩
theorem opens_string {t : TypeId} (ht : P.underlying t = some .string) : Opens enc P w base spare held t Kd.string (fun s => s.size ≤ maxLen) := by
  intro fuel cs x h
  obtain ⟨s, rfl, _, hw⟩ := DataW.trod_string ht h
  exact ⟨s, rfl, hw⟩
theorem list_choose {α : Type} {Q : Nat → α → Prop} : ∀ (n : Nat), (∀ i, i < n → ∃ a, Q i a) → ∃ l : List α, l.length = n ∧ ∀ i a, l[i]? = some a → Q i a
  | 0, _ => ⟨[], rfl, fun i a h => by simp at h⟩
  | n + 1, h => by
    obtain ⟨l, hl, hq⟩ := list_choose n (fun i hi => h i (by omega))
    obtain ⟨a, ha⟩ := h n (by omega)
    refine ⟨l ++ [a], by simp [hl], fun i b hb => ?_⟩
    rw [List.getElem?_append] at hb
    split at hb
    · exact hq i b hb
    · rename_i hi
      have hi0 : i - l.length = 0 := by
        rcases Nat.eq_zero_or_pos (i - l.length) with h0 | h0
        · exact h0
        · rw [List.getElem?_eq_none (by simp; omega)] at hb
          cases hb
      rw [hi0] at hb
      simp at hb
      subst hb
      have : i = n := by omega
      rw [this]
      exact ha
theorem opens_slice {α : Type} {t e e' : TypeId} {d : Kd α} {G : α → Prop} (ht : P.underlying t = some (.slice e)) (hc : P.cellsOf e = d.sz) (ho : Opens enc P w base spare held e d G) :
    Opens enc P w base spare held t (Kd.slice e' d) (fun xs => xs.length ≤ maxLen ∧ ∀ x ∈ xs, G x) := by
  intro fuel cs x h
  rcases DataW.trod_slice ht h with ⟨rfl, _⟩ | ⟨a, len, cap, elems, rest, n, _, rfl, _, _, hl, hm, hlen, hel, _⟩
  · exact ⟨[], ⟨none, 0, rfl, Nat.le_refl _, rfl, by simp, fun h => by simp at h⟩, by simp, fun x hx => by simp at hx⟩
  · have each : ∀ i, i < len → ∃ z : α, (∃ c, c.length = d.sz ∧ d.K w z c ∧ ∀ j u, c[j]? = some u → w.cell? (a.add (i * d.sz + j)) = some u) ∧ G z := by
      intro i hi
      have he := hel i hi
      rw [List.getElem?_eq_getElem (by omega), Option.bind_eq_some_iff] at he
      obtain ⟨c, hcs, hy⟩ := he
      obtain ⟨z, hk, hg⟩ := ho _ _ _ hy
      refine ⟨z, ⟨c, d.K_len hk, hk, fun j u hu => ?_⟩, hg⟩
      obtain ⟨_, hcl, hcell⟩ := World.cells?_some hcs
      have hj : j < c.length := (List.getElem?_eq_some_iff.1 hu).1
      have := hcell j (by omega)
      rw [hc, Addr.add_add] at this
      rw [this, hu]
    obtain ⟨l, hll, hq⟩ := list_choose len each
    refine ⟨l, ⟨some a, cap, by rw [hll], by omega, rfl, by unfold maxLen at hm; omega, fun _ => ⟨a, rfl, fun j p hp => ?_⟩⟩, by omega, fun z hz => ?_⟩
    · obtain ⟨⟨c, h1, h2, h3⟩, _⟩ := hq j p hp
      exact ⟨c, h1, h2, h3⟩
    · obtain ⟨i, hi⟩ := List.getElem?_of_mem hz
      exact (hq i z hi).2
/-- The fields from a place on, read in line by the kind d. -/
def Fields {α : Type} (enc : TypeId × Value → H) (P : Program) (w : World) (base : Nat) (spare : Nat → Bool) (held : Bool) (fs : List Field) (off : Nat) (d : Kd α) (G : α → Prop) : Prop :=
  ∀ (n : Nat) (cs : List Value), cs.length = off + d.sz → (∀ f ∈ fs, ∃ x, DataW.trod enc P w base spare held n f.type ((cs.drop f.offset).take (P.cellsOf f.type)) = some x) → ∃ a, d.K w a (cs.drop off) ∧ G a
theorem fields_one {α : Type} {f : Field} {off : Nat} {d : Kd α} {G : α → Prop} (hf : f.offset = off) (hc : P.cellsOf f.type = d.sz) (ho : Opens enc P w base spare held f.type d G) : Fields enc P w base spare held [f] off d G := by
  intro n cs hl h
  obtain ⟨x, hx⟩ := h f (by simp)
  obtain ⟨a, hk, hg⟩ := ho _ _ _ hx
  refine ⟨a, ?_, hg⟩
  rw [hf, hc, List.take_of_length_le (by simp [hl])] at hk
  exact hk
theorem fields_cons {α β : Type} {f : Field} {fs : List Field} {off : Nat} {d : Kd α} {d' : Kd β} {G : α → Prop} {G' : β → Prop} (hf : f.offset = off) (hc : P.cellsOf f.type = d.sz) (ho : Opens enc P w base spare held f.type d G)
    (hr : Fields enc P w base spare held fs (off + d.sz) d' G') : Fields enc P w base spare held (f :: fs) off (Kd.pair d d') (fun x => G x.1 ∧ G' x.2) := by
  intro n cs hl h
  obtain ⟨x, hx⟩ := h f (by simp)
  obtain ⟨a, hk, hg⟩ := ho _ _ _ hx
  rw [hf, hc] at hk
  have hl' : cs.length = off + d.sz + d'.sz := by rw [hl]; show off + (d.sz + d'.sz) = _; omega
  obtain ⟨b, hk', hg'⟩ := hr n cs hl' (fun g hg => h g (by simp [hg]))
  refine ⟨(a, b), ⟨_, _, ?_, hk, hk'⟩, hg, hg'⟩
  rw [← List.drop_drop, List.take_append_drop]
theorem opens_struct {α : Type} {t : TypeId} {fs : Array Field} {d : Kd α} {G : α → Prop} (ht : P.underlying t = some (.struct fs)) (hc : P.cellsOf t = d.sz) (hf : Fields enc P w base spare held fs.toList 0 d G) : Opens enc P w base spare held t d G := by
  intro fuel cs x h
  obtain ⟨xs, n, _, _, hl, hlen, hx⟩ := DataW.trod_struct ht h
  obtain ⟨a, hk, hg⟩ := hf n cs (by omega) (fun f hm => by
    obtain ⟨i, hi⟩ := List.getElem?_of_mem hm
    have hi' : i < fs.size := by have := (List.getElem?_eq_some_iff.1 hi).1; simpa using this
    have := hx i f (by rw [← hi, Array.getElem?_toList])
    rw [List.getElem?_eq_getElem (by omega)] at this
    exact ⟨_, this⟩)
  exact ⟨a, by simpa using hk, hg⟩
/-- A structure by its fields: where the kind's own value is the tuple. -/
theorem opens_iso {α β : Type} {t : TypeId} {d : Kd α} {G : α → Prop} (f : β → α) (g : α → β) (hfg : ∀ a, f (g a) = a) (h : Opens enc P w base spare held t d G) : Opens enc P w base spare held t (Kd.iso d f) (fun b => G (f b)) := by
  intro fuel cs x hx
  obtain ⟨a, hk, ha⟩ := h fuel cs x hx
  refine ⟨g a, ?_, by show G (f (g a)); rw [hfg]; exact ha⟩
  show d.K w (f (g a)) cs
  rw [hfg]
  exact hk
/-- An argument: its cells, by the kind. -/
theorem opens_arg {α : Type} {t : TypeId} {d : Kd α} {G : α → Prop} {v : Value} {dd : DataW H} {p : List MemPlace} (ho : Opens enc P w base spare held t d G) (h : DataW.Trod enc P w base spare held t v dd p) : ∃ a, d.K w a v.cells.toList ∧ G a := by
  obtain ⟨fuel, hf⟩ := h
  exact ho _ _ _ hf
end
end Go.Proofs.Ytcbaokflimdjnaa.Open
end
