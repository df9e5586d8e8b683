/- Part 22 of the proof: general lemmas, contracts of functions, walks. No condition of its own. -/
import Derived.WalkKit
import Derived.KernelRfl
import Derived.Deep.LoopGhost
import Derived.Deep.QuietTactic
import Derived.BigQuiet
import Derived.RowKit3
import Derived.Deep.RegionWith
import Derived.Deep.RegionHeld3
import Derived.WalkLawsBesides
import Derived.IntWalk
import Derived.Test.YtcbaokflimdjnaaPr11
import Derived.Test.YtcbaokflimdjnaaPr2
import Derived.Test.YtcbaokflimdjnaaPr21
import Derived.Test.YtcbaokflimdjnaaPr17
import Derived.Test.YtcbaokflimdjnaaPr5
import Derived.Test.YtcbaokflimdjnaaPr7
import Derived.Test.YtcbaokflimdjnaaPr13
section
namespace Go.Proofs.Ytcbaokflimdjnaa
open Go.RowKit Go.Proofs.YtcbaokflimdjnaaW.PrintWords Go.Proofs.YtcbaokflimdjnaaW.PrintMore Go.Proofs.Ytcbaokflimdjnaa.Law Go.Proofs.Ytcbaokflimdjnaa.Num
set_option linter.unusedVariables false
set_option linter.unusedSimpArgs false
/-- What is left of a purse: -1 where it does not do. -/
def sub (left : Int) (n : Nat) : Int := if left < n then -1 else left - n
def sizeCapS (l : List Cap) : Nat := l.length
theorem szCapS (A : Option Addr) (c : Nat) (l : List Cap) (left : Int) (w : World) (hr : kCap.C w A l.length l) (h0 : 0 ≤ left) (h1 : left ≤ 1048576) :
    Calls Try.prog 128 #[.slice A l.length c, .int .i64 left] w fun e w' => e = .returned (.int .i64 (sub left (sizeCapS l))) ∧ Drawn0 w w' := by
  have hL : l.length ≤ 9223372036854775807 := hr.2.1
  unfold sizeCapS sub
  clear hr
  by_cases h : left < (l.length : Int)
  · rw [if_pos h]
    have d1 : decide (left - (l.length : Int) < 0) = true := by simp; omega
    have d2 : decide (left < (l.length : Int)) = true := by simp; omega
    go_enter Try.func128, Try.ntmps128
    go_wp2
    go_ret
    exact ⟨rfl, Drawn0.refl _⟩
  · rw [if_neg h]
    have d1 : decide (left - (l.length : Int) < 0) = false := by simp; omega
    have d2 : decide (left < (l.length : Int)) = false := by simp; omega
    go_enter Try.func128, Try.ntmps128
    go_wp2
    go_ret
    exact ⟨rfl, Drawn0.refl _⟩
def sizeInsS (l : List Ins) : Nat := l.length
theorem szInsS (A : Option Addr) (c : Nat) (l : List Ins) (left : Int) (w : World) (hr : kIns.C w A l.length l) (h0 : 0 ≤ left) (h1 : left ≤ 1048576) :
    Calls Try.prog 129 #[.slice A l.length c, .int .i64 left] w fun e w' => e = .returned (.int .i64 (sub left (sizeInsS l))) ∧ Drawn0 w w' := by
  have hL : l.length ≤ 9223372036854775807 := hr.2.1
  unfold sizeInsS sub
  clear hr
  by_cases h : left < (l.length : Int)
  · rw [if_pos h]
    have d1 : decide (left - (l.length : Int) < 0) = true := by simp; omega
    have d2 : decide (left < (l.length : Int)) = true := by simp; omega
    go_enter Try.func129, Try.ntmps129
    go_wp2
    go_ret
    exact ⟨rfl, Drawn0.refl _⟩
  · rw [if_neg h]
    have d1 : decide (left - (l.length : Int) < 0) = false := by simp; omega
    have d2 : decide (left < (l.length : Int)) = false := by simp; omega
    go_enter Try.func129, Try.ntmps129
    go_wp2
    go_ret
    exact ⟨rfl, Drawn0.refl _⟩
def sizeHandlerS (l : List Handler) : Nat := l.length
theorem szHandlerS (A : Option Addr) (c : Nat) (l : List Handler) (left : Int) (w : World) (hr : kHandler.C w A l.length l) (h0 : 0 ≤ left) (h1 : left ≤ 1048576) :
    Calls Try.prog 130 #[.slice A l.length c, .int .i64 left] w fun e w' => e = .returned (.int .i64 (sub left (sizeHandlerS l))) ∧ Drawn0 w w' := by
  have hL : l.length ≤ 9223372036854775807 := hr.2.1
  unfold sizeHandlerS sub
  clear hr
  by_cases h : left < (l.length : Int)
  · rw [if_pos h]
    have d1 : decide (left - (l.length : Int) < 0) = true := by simp; omega
    have d2 : decide (left < (l.length : Int)) = true := by simp; omega
    go_enter Try.func130, Try.ntmps130
    go_wp2
    go_ret
    exact ⟨rfl, Drawn0.refl _⟩
  · rw [if_neg h]
    have d1 : decide (left - (l.length : Int) < 0) = false := by simp; omega
    have d2 : decide (left < (l.length : Int)) = false := by simp; omega
    go_enter Try.func130, Try.ntmps130
    go_wp2
    go_ret
    exact ⟨rfl, Drawn0.refl _⟩
def sizeConst (x : Const) : Nat := x.text.size
def GoodConst (x : Const) : Prop := x.text.size ≤ maxLen
set_option maxHeartbeats 4000000 in
set_option maxRecDepth 100000 in
theorem szConst (x : Const) (cs : List Value) (left : Int) (w : World) (hk : kConst.K w x cs) (hgood : GoodConst x) (h0 : 0 ≤ left) (h1 : left ≤ 1048576) :
    Calls Try.prog 92 #[.agg ⟨cs⟩, .int .i64 left] w fun e w' => e = .returned (.int .i64 (sub left (sizeConst x))) ∧ Below w.heap.size w w' := by
  have ecs := kConst_open hk; subst ecs
  clear hk
  have hu := Try.underlying131
  unfold GoodConst at hgood
  have HG := Aside0.mk hgood
  have A0 := Aside0.mk ((At.start w).alloc #[.int .i64 x.kind, .int .u64 x.num, .string x.text] 131)
  obtain ⟨n0, hn0⟩ : ∃ q, q = x.text.size := ⟨_, rfl⟩
  have HN := Aside0.mk hn0
  have hb0 : n0 ≤ 9223372036854775807 := by have := HG.out; unfold maxLen at this; omega
  clear hn0
  clear hgood
  have hsize : sizeConst x = n0 := by unfold sizeConst; have h := HN.out; omega
  rw [hsize]; have HSZ := Aside0.mk hsize; clear hsize
  by_cases c0 : left < (n0 : Int)
  · skip
    have hfin : sub left (n0) = -1 := by unfold sub; rw [if_pos (by omega)]
    rw [hfin]; clear hfin
    have s0 : sub (left) n0 = -1 := by unfold sub; rw [if_pos (by omega)]
    have d0 : decide (left - (n0 : Int) < 0) = true := by simp; omega
    have d0b : decide (left < (n0 : Int)) = true := by simp; omega
    have S0 := Aside0.mk s0; clear s0
    have e0 : (x.text.size : Int) = (n0 : Int) := by have := HN.out; omega
    go_enter Try.func92, Try.ntmps92
    go_wp2
    go_ret
    exact ⟨rfl, A0.out.below⟩
  · skip
    have hfin : sub left (n0) = left - n0 := by unfold sub; rw [if_neg (by omega)] <;> omega
    rw [hfin]; clear hfin
    have s0 : sub (left) n0 = left - (n0 : Int) := by unfold sub; rw [if_neg (by omega)]
    have d0 : decide (left - (n0 : Int) < 0) = false := by simp; omega
    have g0 : 0 ≤ left - (n0 : Int) := by omega
    have d0b : decide (left < (n0 : Int)) = false := by simp; omega
    have S0 := Aside0.mk s0; clear s0
    have e0 : (x.text.size : Int) = (n0 : Int) := by have := HN.out; omega
    go_enter Try.func92, Try.ntmps92
    go_wp2
    go_ret
    exact ⟨rfl, A0.out.below⟩
def sizeFunc (x : Func) : Nat := sizeCapS x.caps + sizeInsS x.code + sizeHandlerS x.handlers
def GoodFunc (x : Func) : Prop := True
set_option maxHeartbeats 4000000 in
set_option maxRecDepth 100000 in
theorem szFunc (x : Func) (cs : List Value) (left : Int) (w : World) (hk : kFuncL.K w x cs) (hgood : GoodFunc x) (h0 : 0 ≤ left) (h1 : left ≤ 1048576) :
    Calls Try.prog 91 #[.agg ⟨cs⟩, .int .i64 left] w fun e w' => e = .returned (.int .i64 (sub left (sizeFunc x))) ∧ Below w.heap.size w w' := by
  obtain ⟨pA2, pc2, pA3, pc3, pA4, pc4, rfl, pl2, pg2, pl3, pg3, pl4, pg4⟩ := kFuncL_open hk
  have pG2 := Aside0.mk pg2; clear pg2 pl2
  have pG3 := Aside0.mk pg3; clear pg3 pl3
  have pG4 := Aside0.mk pg4; clear pg4 pl4
  clear hk
  have hu := Try.underlying129
  unfold GoodFunc at hgood
  have HG := Aside0.mk hgood
  have A0 := Aside0.mk ((At.start w).alloc #[.int .i64 x.params, .int .i64 x.regs, .slice pA2 x.caps.length pc2, .slice pA3 x.code.length pc3, .slice pA4 x.handlers.length pc4] 129)
  obtain ⟨n0, hn0⟩ : ∃ q, q = sizeCapS x.caps := ⟨_, rfl⟩
  obtain ⟨n1, hn1⟩ : ∃ q, q = sizeInsS x.code := ⟨_, rfl⟩
  obtain ⟨n2, hn2⟩ : ∃ q, q = sizeHandlerS x.handlers := ⟨_, rfl⟩
  have HN := Aside0.mk (show n0 = sizeCapS x.caps ∧ n1 = sizeInsS x.code ∧ n2 = sizeHandlerS x.handlers from ⟨hn0, hn1, hn2⟩)
  clear hn0
  clear hn1
  clear hn2
  clear hgood
  have hsize : sizeFunc x = n0 + n1 + n2 := by unfold sizeFunc; have h := HN.out; omega
  rw [hsize]; have HSZ := Aside0.mk hsize; clear hsize
  by_cases c0 : left < (n0 : Int)
  · skip
    have hfin : sub left (n0 + n1 + n2) = -1 := by unfold sub; rw [if_pos (by omega)]
    rw [hfin]; clear hfin
    have s0 : sub (left) n0 = -1 := by unfold sub; rw [if_pos (by omega)]
    have S0 := Aside0.mk s0; clear s0
    go_enter Try.func91, Try.ntmps91
    go_wp2_with fail
    refine (szCapS _ _ _ (left) _ (A0.out.reads pG2.out) (by omega) (by omega)).mono ?_
    rintro e w1 ⟨rfl, hb0⟩
    rw [show sizeCapS x.caps = n0 from (by have := HN.out; omega), S0.out]
    have A1 := Aside0.mk (A0.out.step (hb0.below)); clear A0 hb0; have z0 := A1.out.cell0
    go_wp2
    go_ret
    exact ⟨rfl, A1.out.below⟩
  · skip
    by_cases c1 : left - (n0 : Int) < (n1 : Int)
    · skip
      have hfin : sub left (n0 + n1 + n2) = -1 := by unfold sub; rw [if_pos (by omega)]
      rw [hfin]; clear hfin
      have s0 : sub (left) n0 = left - (n0 : Int) := by unfold sub; rw [if_neg (by omega)]
      have d0 : decide (left - (n0 : Int) < 0) = false := by simp; omega
      have g0 : 0 ≤ left - (n0 : Int) := by omega
      have S0 := Aside0.mk s0; clear s0
      have s1 : sub (left - (n0 : Int)) n1 = -1 := by unfold sub; rw [if_pos (by omega)]
      have S1 := Aside0.mk s1; clear s1
      go_enter Try.func91, Try.ntmps91
      go_wp2_with fail
      refine (szCapS _ _ _ (left) _ (A0.out.reads pG2.out) (by omega) (by omega)).mono ?_
      rintro e w1 ⟨rfl, hb0⟩
      rw [show sizeCapS x.caps = n0 from (by have := HN.out; omega), S0.out]
      have A1 := Aside0.mk (A0.out.step (hb0.below)); clear A0 hb0; have z0 := A1.out.cell0
      go_wp2_with fail
      refine (szInsS _ _ _ (left - (n0 : Int)) _ (A1.out.reads pG3.out) (by omega) (by omega)).mono ?_
      rintro e w2 ⟨rfl, hb0⟩
      rw [show sizeInsS x.code = n1 from (by have := HN.out; omega), S1.out]
      have A2 := Aside0.mk (A1.out.step (hb0.below)); clear A1 hb0 z0; have z0 := A2.out.cell0
      go_wp2
      go_ret
      exact ⟨rfl, A2.out.below⟩
    · skip
      by_cases c2 : left - (n0 : Int) - (n1 : Int) < (n2 : Int)
      · skip
        have hfin : sub left (n0 + n1 + n2) = -1 := by unfold sub; rw [if_pos (by omega)]
        rw [hfin]; clear hfin
        have s0 : sub (left) n0 = left - (n0 : Int) := by unfold sub; rw [if_neg (by omega)]
        have d0 : decide (left - (n0 : Int) < 0) = false := by simp; omega
        have g0 : 0 ≤ left - (n0 : Int) := by omega
        have S0 := Aside0.mk s0; clear s0
        have s1 : sub (left - (n0 : Int)) n1 = left - (n0 : Int) - (n1 : Int) := by unfold sub; rw [if_neg (by omega)]
        have d1 : decide (left - (n0 : Int) - (n1 : Int) < 0) = false := by simp; omega
        have g1 : 0 ≤ left - (n0 : Int) - (n1 : Int) := by omega
        have S1 := Aside0.mk s1; clear s1
        have s2 : sub (left - (n0 : Int) - (n1 : Int)) n2 = -1 := by unfold sub; rw [if_pos (by omega)]
        have S2 := Aside0.mk s2; clear s2
        go_enter Try.func91, Try.ntmps91
        go_wp2_with fail
        refine (szCapS _ _ _ (left) _ (A0.out.reads pG2.out) (by omega) (by omega)).mono ?_
        rintro e w1 ⟨rfl, hb0⟩
        rw [show sizeCapS x.caps = n0 from (by have := HN.out; omega), S0.out]
        have A1 := Aside0.mk (A0.out.step (hb0.below)); clear A0 hb0; have z0 := A1.out.cell0
        go_wp2_with fail
        refine (szInsS _ _ _ (left - (n0 : Int)) _ (A1.out.reads pG3.out) (by omega) (by omega)).mono ?_
        rintro e w2 ⟨rfl, hb0⟩
        rw [show sizeInsS x.code = n1 from (by have := HN.out; omega), S1.out]
        have A2 := Aside0.mk (A1.out.step (hb0.below)); clear A1 hb0 z0; have z0 := A2.out.cell0
        go_wp2_with fail
        refine (szHandlerS _ _ _ (left - (n0 : Int) - (n1 : Int)) _ (A2.out.reads pG4.out) (by omega) (by omega)).mono ?_
        rintro e w3 ⟨rfl, hb0⟩
        rw [show sizeHandlerS x.handlers = n2 from (by have := HN.out; omega), S2.out]
        have A3 := Aside0.mk (A2.out.step (hb0.below)); clear A2 hb0 z0; have z0 := A3.out.cell0
        go_wp2
        go_ret
        exact ⟨rfl, A3.out.below⟩
      · skip
        have hfin : sub left (n0 + n1 + n2) = left - n0 - n1 - n2 := by unfold sub; rw [if_neg (by omega)] <;> omega
        rw [hfin]; clear hfin
        have s0 : sub (left) n0 = left - (n0 : Int) := by unfold sub; rw [if_neg (by omega)]
        have d0 : decide (left - (n0 : Int) < 0) = false := by simp; omega
        have g0 : 0 ≤ left - (n0 : Int) := by omega
        have S0 := Aside0.mk s0; clear s0
        have s1 : sub (left - (n0 : Int)) n1 = left - (n0 : Int) - (n1 : Int) := by unfold sub; rw [if_neg (by omega)]
        have d1 : decide (left - (n0 : Int) - (n1 : Int) < 0) = false := by simp; omega
        have g1 : 0 ≤ left - (n0 : Int) - (n1 : Int) := by omega
        have S1 := Aside0.mk s1; clear s1
        have s2 : sub (left - (n0 : Int) - (n1 : Int)) n2 = left - (n0 : Int) - (n1 : Int) - (n2 : Int) := by unfold sub; rw [if_neg (by omega)]
        have d2 : decide (left - (n0 : Int) - (n1 : Int) - (n2 : Int) < 0) = false := by simp; omega
        have g2 : 0 ≤ left - (n0 : Int) - (n1 : Int) - (n2 : Int) := by omega
        have S2 := Aside0.mk s2; clear s2
        go_enter Try.func91, Try.ntmps91
        go_wp2_with fail
        refine (szCapS _ _ _ (left) _ (A0.out.reads pG2.out) (by omega) (by omega)).mono ?_
        rintro e w1 ⟨rfl, hb0⟩
        rw [show sizeCapS x.caps = n0 from (by have := HN.out; omega), S0.out]
        have A1 := Aside0.mk (A0.out.step (hb0.below)); clear A0 hb0; have z0 := A1.out.cell0
        go_wp2_with fail
        refine (szInsS _ _ _ (left - (n0 : Int)) _ (A1.out.reads pG3.out) (by omega) (by omega)).mono ?_
        rintro e w2 ⟨rfl, hb0⟩
        rw [show sizeInsS x.code = n1 from (by have := HN.out; omega), S1.out]
        have A2 := Aside0.mk (A1.out.step (hb0.below)); clear A1 hb0 z0; have z0 := A2.out.cell0
        go_wp2_with fail
        refine (szHandlerS _ _ _ (left - (n0 : Int) - (n1 : Int)) _ (A2.out.reads pG4.out) (by omega) (by omega)).mono ?_
        rintro e w3 ⟨rfl, hb0⟩
        rw [show sizeHandlerS x.handlers = n2 from (by have := HN.out; omega), S2.out]
        have A3 := Aside0.mk (A2.out.step (hb0.below)); clear A2 hb0 z0; have z0 := A3.out.cell0
        go_wp2
        go_ret
        exact ⟨rfl, A3.out.below⟩
def sizeConstS (l : List Const) : Nat := l.length + (l.map sizeConst).sum
theorem sizeConstS_take (l : List Const) (j : Nat) (h : j < l.length) : ((l.take (j + 1)).map sizeConst).sum = ((l.take j).map sizeConst).sum + sizeConst (el zConst l j) := by
  rw [List.take_succ_eq_append_getElem h, List.map_append, List.sum_append, el_lt zConst h]
  simp
theorem sizeConstS_le (l : List Const) (j : Nat) : ((l.take j).map sizeConst).sum ≤ (l.map sizeConst).sum := by
  have h : ((l.take j ++ l.drop j).map sizeConst).sum = (l.map sizeConst).sum := by rw [List.take_append_drop]
  rw [List.map_append, List.sum_append] at h
  omega
set_option maxHeartbeats 4000000 in
set_option maxRecDepth 100000 in
theorem szConstS (A : Option Addr) (c : Nat) (l : List Const) (left : Int) (w : World) (hr : kConst.C w A l.length l) (hgood : ∀ y ∈ l, GoodConst y) (h0 : 0 ≤ left) (h1 : left ≤ 1048576) :
    Calls Try.prog 50 #[.slice A l.length c, .int .i64 left] w fun e w' => e = .returned (.int .i64 (sub left (sizeConstS l))) ∧ Below w.heap.size w w' := by
  have hL : l.length ≤ 9223372036854775807 := hr.2.1
  have HR := Aside0.mk hr; have HG := Aside0.mk hgood; clear hr hgood
  by_cases h : left < (l.length : Int)
  · have hfin : sub left (sizeConstS l) = -1 := by unfold sub sizeConstS; rw [if_pos (by omega)]
    rw [hfin]; clear hfin
    have d1 : decide (left - (l.length : Int) < 0) = true := by simp; omega
    have d2 : decide (left < (l.length : Int)) = true := by simp; omega
    go_enter Try.func50, Try.ntmps50
    go_wp2
    go_ret
    exact ⟨rfl, Below.refl _ _⟩
  · have d1 : decide (left - (l.length : Int) < 0) = false := by simp; omega
    have d2 : decide (left < (l.length : Int)) = false := by simp; omega
    go_enter Try.func50, Try.ntmps50
    go_wp2
    go_loopw [1, 5] (fun u v wr => ∃ (j : Nat) (r : Int), v = .int .i64 j ∧ u = .int .i64 r ∧ j ≤ l.length ∧ 0 ≤ r ∧ r ≤ 1048576 ∧ Aside0 (r = left - (l.length : Int) - (((l.take j).map sizeConst).sum : Nat)) ∧ Aside0 (Below w.heap.size w wr)) (fun _ v _ => l.length - (intOf v).toNat)
    case atStart => exact ⟨0, left - (l.length : Int), rfl, rfl, by omega, by omega, by omega, ⟨by simp⟩, ⟨Below.refl _ _⟩⟩
    case round =>
      obtain ⟨j, r, rfl, rfl, hj, hr0, hr1, HE, HW⟩ := hrel
      by_cases hlt : j < l.length
      · obtain ⟨pa, rfl, pK, px0, px1, px2⟩ := Const_at (Kd.C_below HR.out HW.out) j hlt
        have pK2 := Aside0.mk pK; clear pK
        have HGj := Aside0.mk (HG.out _ (el_mem zConst hlt))
        have i1 : (0 : Int) ≤ (j : Int) := by omega
        have i2 : (j : Int) < (l.length : Int) := by omega
        have HT := Aside0.mk (sizeConstS_take l j hlt); have HM := Aside0.mk (sizeConstS_le l (j + 1))
        obtain ⟨m, hm⟩ : ∃ m, m = sizeConst (el zConst l j) := ⟨_, rfl⟩
        have HMM := Aside0.mk hm; clear hm
        by_cases c0 : r < (m : Int)
        · have s0 : sub r m = -1 := by unfold sub; rw [if_pos c0]
          have hfin : sub left (sizeConstS l) = -1 := by unfold sub sizeConstS; rw [if_pos (by have := HE.out; have := HT.out; have := HM.out; have := HMM.out; omega)]
          have HF := Aside0.mk hfin; clear hfin
          have S0 := Aside0.mk s0; clear s0
          go_wp2_with fail
          refine (szConst (el zConst l j) _ r _ pK2.out HGj.out hr0 hr1).mono ?_
          rintro e w1 ⟨rfl, hb⟩
          rw [← HMM.out, S0.out]
          go_wp2
          go_ret
          exact ⟨by rw [HF.out]; rfl, below_step HW.out hb⟩
        · have s0 : sub r m = r - m := by unfold sub; rw [if_neg c0]
          have d3 : decide (r - (m : Int) < 0) = false := by simp; omega
          have g3 : 0 ≤ r - (m : Int) := by omega
          have S0 := Aside0.mk s0; clear s0
          go_wp2_with fail
          refine (szConst (el zConst l j) _ r _ pK2.out HGj.out hr0 hr1).mono ?_
          rintro e w1 ⟨rfl, hb⟩
          rw [← HMM.out, S0.out]
          go_wp2
          go_roundw
          case rel => exact ⟨j + 1, r - (m : Int), by go_num, rfl, by omega, by omega, by omega, ⟨by have := HE.out; have := HT.out; have := HMM.out; omega⟩, ⟨below_step HW.out hb⟩⟩
          case measure => simp [intOf]; omega
      · have hjl : j = l.length := by omega
        have hfin : sub left (sizeConstS l) = r := by have h := HE.out; rw [hjl, List.take_length] at h; unfold sub sizeConstS; rw [if_neg (by omega)]; omega
        have HF := Aside0.mk hfin; clear hfin hjl
        go_wp2
        go_ret
        exact ⟨by rw [HF.out]; rfl, HW.out⟩
def sizeFuncS (l : List Func) : Nat := l.length + (l.map sizeFunc).sum
theorem sizeFuncS_take (l : List Func) (j : Nat) (h : j < l.length) : ((l.take (j + 1)).map sizeFunc).sum = ((l.take j).map sizeFunc).sum + sizeFunc (el zFunc l j) := by
  rw [List.take_succ_eq_append_getElem h, List.map_append, List.sum_append, el_lt zFunc h]
  simp
theorem sizeFuncS_le (l : List Func) (j : Nat) : ((l.take j).map sizeFunc).sum ≤ (l.map sizeFunc).sum := by
  have h : ((l.take j ++ l.drop j).map sizeFunc).sum = (l.map sizeFunc).sum := by rw [List.take_append_drop]
  rw [List.map_append, List.sum_append] at h
  omega
set_option maxHeartbeats 4000000 in
set_option maxRecDepth 100000 in
theorem szFuncS (A : Option Addr) (c : Nat) (l : List Func) (left : Int) (w : World) (hr : kFuncL.C w A l.length l) (hgood : ∀ y ∈ l, GoodFunc y) (h0 : 0 ≤ left) (h1 : left ≤ 1048576) :
    Calls Try.prog 49 #[.slice A l.length c, .int .i64 left] w fun e w' => e = .returned (.int .i64 (sub left (sizeFuncS l))) ∧ Below w.heap.size w w' := by
  have hL : l.length ≤ 9223372036854775807 := hr.2.1
  have HR := Aside0.mk hr; have HG := Aside0.mk hgood; clear hr hgood
  by_cases h : left < (l.length : Int)
  · have hfin : sub left (sizeFuncS l) = -1 := by unfold sub sizeFuncS; rw [if_pos (by omega)]
    rw [hfin]; clear hfin
    have d1 : decide (left - (l.length : Int) < 0) = true := by simp; omega
    have d2 : decide (left < (l.length : Int)) = true := by simp; omega
    go_enter Try.func49, Try.ntmps49
    go_wp2
    go_ret
    exact ⟨rfl, Below.refl _ _⟩
  · have d1 : decide (left - (l.length : Int) < 0) = false := by simp; omega
    have d2 : decide (left < (l.length : Int)) = false := by simp; omega
    go_enter Try.func49, Try.ntmps49
    go_wp2
    go_loopw [1, 5] (fun u v wr => ∃ (j : Nat) (r : Int), v = .int .i64 j ∧ u = .int .i64 r ∧ j ≤ l.length ∧ 0 ≤ r ∧ r ≤ 1048576 ∧ Aside0 (r = left - (l.length : Int) - (((l.take j).map sizeFunc).sum : Nat)) ∧ Aside0 (Below w.heap.size w wr)) (fun _ v _ => l.length - (intOf v).toNat)
    case atStart => exact ⟨0, left - (l.length : Int), rfl, rfl, by omega, by omega, by omega, ⟨by simp⟩, ⟨Below.refl _ _⟩⟩
    case round =>
      obtain ⟨j, r, rfl, rfl, hj, hr0, hr1, HE, HW⟩ := hrel
      by_cases hlt : j < l.length
      · obtain ⟨pa, pA2, pc2, pA3, pc3, pA4, pc4, rfl, pK, px0, px1, px2, px3, px4⟩ := FuncL_at (Kd.C_below HR.out HW.out) j hlt
        have pK2 := Aside0.mk pK; clear pK
        have HGj := Aside0.mk (HG.out _ (el_mem zFunc hlt))
        have i1 : (0 : Int) ≤ (j : Int) := by omega
        have i2 : (j : Int) < (l.length : Int) := by omega
        have HT := Aside0.mk (sizeFuncS_take l j hlt); have HM := Aside0.mk (sizeFuncS_le l (j + 1))
        obtain ⟨m, hm⟩ : ∃ m, m = sizeFunc (el zFunc l j) := ⟨_, rfl⟩
        have HMM := Aside0.mk hm; clear hm
        by_cases c0 : r < (m : Int)
        · have s0 : sub r m = -1 := by unfold sub; rw [if_pos c0]
          have hfin : sub left (sizeFuncS l) = -1 := by unfold sub sizeFuncS; rw [if_pos (by have := HE.out; have := HT.out; have := HM.out; have := HMM.out; omega)]
          have HF := Aside0.mk hfin; clear hfin
          have S0 := Aside0.mk s0; clear s0
          go_wp2_with fail
          refine (szFunc (el zFunc l j) _ r _ pK2.out HGj.out hr0 hr1).mono ?_
          rintro e w1 ⟨rfl, hb⟩
          rw [← HMM.out, S0.out]
          go_wp2
          go_ret
          exact ⟨by rw [HF.out]; rfl, below_step HW.out hb⟩
        · have s0 : sub r m = r - m := by unfold sub; rw [if_neg c0]
          have d3 : decide (r - (m : Int) < 0) = false := by simp; omega
          have g3 : 0 ≤ r - (m : Int) := by omega
          have S0 := Aside0.mk s0; clear s0
          go_wp2_with fail
          refine (szFunc (el zFunc l j) _ r _ pK2.out HGj.out hr0 hr1).mono ?_
          rintro e w1 ⟨rfl, hb⟩
          rw [← HMM.out, S0.out]
          go_wp2
          go_roundw
          case rel => exact ⟨j + 1, r - (m : Int), by go_num, rfl, by omega, by omega, by omega, ⟨by have := HE.out; have := HT.out; have := HMM.out; omega⟩, ⟨below_step HW.out hb⟩⟩
          case measure => simp [intOf]; omega
      · have hjl : j = l.length := by omega
        have hfin : sub left (sizeFuncS l) = r := by have h := HE.out; rw [hjl, List.take_length] at h; unfold sub sizeFuncS; rw [if_neg (by omega)]; omega
        have HF := Aside0.mk hfin; clear hfin hjl
        go_wp2
        go_ret
        exact ⟨by rw [HF.out]; rfl, HW.out⟩
def sizeImage (x : Image) : Nat := sizeFuncS x.funcs + sizeConstS x.consts
def GoodImage (x : Image) : Prop := (∀ y ∈ x.funcs, GoodFunc y) ∧ (∀ y ∈ x.consts, GoodConst y)
set_option maxHeartbeats 4000000 in
set_option maxRecDepth 100000 in
theorem szImage (x : Image) (cs : List Value) (left : Int) (w : World) (hk : kImageL.K w x cs) (hgood : GoodImage x) (h0 : 0 ≤ left) (h1 : left ≤ 1048576) :
    Calls Try.prog 12 #[.agg ⟨cs⟩, .int .i64 left] w fun e w' => e = .returned (.int .i64 (sub left (sizeImage x))) ∧ Below w.heap.size w w' := by
  obtain ⟨pA0, pc0, pA1, pc1, rfl, pl0, pg0, pl1, pg1⟩ := kImageL_open hk
  have pG0 := Aside0.mk pg0; clear pg0 pl0
  have pG1 := Aside0.mk pg1; clear pg1 pl1
  clear hk
  have hu := Try.underlying25
  unfold GoodImage at hgood
  have HG := Aside0.mk hgood
  have A0 := Aside0.mk ((At.start w).alloc #[.slice pA0 x.funcs.length pc0, .slice pA1 x.consts.length pc1] 25)
  obtain ⟨n0, hn0⟩ : ∃ q, q = sizeFuncS x.funcs := ⟨_, rfl⟩
  obtain ⟨n1, hn1⟩ : ∃ q, q = sizeConstS x.consts := ⟨_, rfl⟩
  have HN := Aside0.mk (show n0 = sizeFuncS x.funcs ∧ n1 = sizeConstS x.consts from ⟨hn0, hn1⟩)
  clear hn0
  clear hn1
  clear hgood
  have hsize : sizeImage x = n0 + n1 := by unfold sizeImage; have h := HN.out; omega
  rw [hsize]; have HSZ := Aside0.mk hsize; clear hsize
  by_cases c0 : left < (n0 : Int)
  · skip
    have hfin : sub left (n0 + n1) = -1 := by unfold sub; rw [if_pos (by omega)]
    rw [hfin]; clear hfin
    have s0 : sub (left) n0 = -1 := by unfold sub; rw [if_pos (by omega)]
    have S0 := Aside0.mk s0; clear s0
    go_enter Try.func12, Try.ntmps12
    go_wp2_with fail
    refine (szFuncS _ _ _ (left) _ (A0.out.reads pG0.out) (HG.out.1) (by omega) (by omega)).mono ?_
    rintro e w1 ⟨rfl, hb0⟩
    rw [show sizeFuncS x.funcs = n0 from (by have := HN.out; omega), S0.out]
    have A1 := Aside0.mk (A0.out.step (hb0)); clear A0 hb0; have z0 := A1.out.cell0
    go_wp2
    go_ret
    exact ⟨rfl, A1.out.below⟩
  · skip
    by_cases c1 : left - (n0 : Int) < (n1 : Int)
    · skip
      have hfin : sub left (n0 + n1) = -1 := by unfold sub; rw [if_pos (by omega)]
      rw [hfin]; clear hfin
      have s0 : sub (left) n0 = left - (n0 : Int) := by unfold sub; rw [if_neg (by omega)]
      have d0 : decide (left - (n0 : Int) < 0) = false := by simp; omega
      have g0 : 0 ≤ left - (n0 : Int) := by omega
      have S0 := Aside0.mk s0; clear s0
      have s1 : sub (left - (n0 : Int)) n1 = -1 := by unfold sub; rw [if_pos (by omega)]
      have S1 := Aside0.mk s1; clear s1
      go_enter Try.func12, Try.ntmps12
      go_wp2_with fail
      refine (szFuncS _ _ _ (left) _ (A0.out.reads pG0.out) (HG.out.1) (by omega) (by omega)).mono ?_
      rintro e w1 ⟨rfl, hb0⟩
      rw [show sizeFuncS x.funcs = n0 from (by have := HN.out; omega), S0.out]
      have A1 := Aside0.mk (A0.out.step (hb0)); clear A0 hb0; have z0 := A1.out.cell0
      go_wp2_with fail
      refine (szConstS _ _ _ (left - (n0 : Int)) _ (A1.out.reads pG1.out) (HG.out.2) (by omega) (by omega)).mono ?_
      rintro e w2 ⟨rfl, hb0⟩
      rw [show sizeConstS x.consts = n1 from (by have := HN.out; omega), S1.out]
      have A2 := Aside0.mk (A1.out.step (hb0)); clear A1 hb0 z0; have z0 := A2.out.cell0
      go_wp2
      go_ret
      exact ⟨rfl, A2.out.below⟩
    · skip
      have hfin : sub left (n0 + n1) = left - n0 - n1 := by unfold sub; rw [if_neg (by omega)] <;> omega
      rw [hfin]; clear hfin
      have s0 : sub (left) n0 = left - (n0 : Int) := by unfold sub; rw [if_neg (by omega)]
      have d0 : decide (left - (n0 : Int) < 0) = false := by simp; omega
      have g0 : 0 ≤ left - (n0 : Int) := by omega
      have S0 := Aside0.mk s0; clear s0
      have s1 : sub (left - (n0 : Int)) n1 = left - (n0 : Int) - (n1 : Int) := by unfold sub; rw [if_neg (by omega)]
      have d1 : decide (left - (n0 : Int) - (n1 : Int) < 0) = false := by simp; omega
      have g1 : 0 ≤ left - (n0 : Int) - (n1 : Int) := by omega
      have S1 := Aside0.mk s1; clear s1
      go_enter Try.func12, Try.ntmps12
      go_wp2_with fail
      refine (szFuncS _ _ _ (left) _ (A0.out.reads pG0.out) (HG.out.1) (by omega) (by omega)).mono ?_
      rintro e w1 ⟨rfl, hb0⟩
      rw [show sizeFuncS x.funcs = n0 from (by have := HN.out; omega), S0.out]
      have A1 := Aside0.mk (A0.out.step (hb0)); clear A0 hb0; have z0 := A1.out.cell0
      go_wp2_with fail
      refine (szConstS _ _ _ (left - (n0 : Int)) _ (A1.out.reads pG1.out) (HG.out.2) (by omega) (by omega)).mono ?_
      rintro e w2 ⟨rfl, hb0⟩
      rw [show sizeConstS x.consts = n1 from (by have := HN.out; omega), S1.out]
      have A2 := Aside0.mk (A1.out.step (hb0)); clear A1 hb0 z0; have z0 := A2.out.cell0
      go_wp2
      go_ret
      exact ⟨rfl, A2.out.below⟩
end Go.Proofs.Ytcbaokflimdjnaa
end
section
namespace Go.Proofs.Ytcbaokflimdjnaa
open Go.RowKit Go.Proofs.YtcbaokflimdjnaaW.PrintWords Go.Proofs.YtcbaokflimdjnaaW.PrintMore Go.Proofs.Ytcbaokflimdjnaa.Law Go.Proofs.Ytcbaokflimdjnaa.Num
set_option linter.unusedVariables false
set_option linter.unusedSimpArgs false
set_option maxHeartbeats 4000000 in
set_option maxRecDepth 100000 in
theorem eqIns (x y : Ins) (cs ds : List Value) (w : World) (hk : kIns.K w x cs) (hk2 : kIns.K w y ds) :
    Calls Try.prog 166 #[.agg ⟨cs⟩, .agg ⟨ds⟩] w fun e w' => e = .returned (.bool (decide (x = y))) ∧ Below w.heap.size w w' := by
  have ecs := kIns_open hk
  subst ecs
  have eds := kIns_open hk2
  subst eds
  clear hk hk2
  have hu := Try.underlying76
  by_cases h0 : x.op = y.op
  · skip
    have b0 : (x.op == y.op) = true := beq_iff_eq.mpr h0
    have d0 : (x.op != y.op) = false := bne_eq_false_iff_eq.mpr h0
    by_cases h1 : x.a = y.a
    · skip
      have b1 : (x.a == y.a) = true := beq_iff_eq.mpr h1
      have d1 : (x.a != y.a) = false := bne_eq_false_iff_eq.mpr h1
      by_cases h2 : x.b = y.b
      · skip
        have b2 : (x.b == y.b) = true := beq_iff_eq.mpr h2
        have d2 : (x.b != y.b) = false := bne_eq_false_iff_eq.mpr h2
        have hfin : decide (x = y) = true := decide_eq_true (by cases x; cases y; simp_all)
        have HF := Aside0.mk hfin
        clear hfin
        clear h0
        clear h1
        clear h2
        go_enter Try.func166, Try.ntmps166
        go_wp2
        go_ret
        exact ⟨by rw [HF.out]; rfl, by repeat (first | exact Below.refl _ _ | apply below_alloc | apply below_drew1 | apply pw_below_drewN | assumption)⟩
      · skip
        have b2 : (x.b == y.b) = false := beq_eq_false_iff_ne.mpr h2
        have d2 : (x.b != y.b) = true := bne_iff_ne.mpr h2
        have hfin : decide (x = y) = false := decide_eq_false (fun e => h2 (by rw [e]))
        have HF := Aside0.mk hfin
        clear hfin
        clear h0
        clear h1
        clear h2
        go_enter Try.func166, Try.ntmps166
        go_wp2
        go_ret
        exact ⟨by rw [HF.out]; rfl, by repeat (first | exact Below.refl _ _ | apply below_alloc | apply below_drew1 | apply pw_below_drewN | assumption)⟩
    · skip
      have b1 : (x.a == y.a) = false := beq_eq_false_iff_ne.mpr h1
      have d1 : (x.a != y.a) = true := bne_iff_ne.mpr h1
      have hfin : decide (x = y) = false := decide_eq_false (fun e => h1 (by rw [e]))
      have HF := Aside0.mk hfin
      clear hfin
      clear h0
      clear h1
      go_enter Try.func166, Try.ntmps166
      go_wp2
      go_ret
      exact ⟨by rw [HF.out]; rfl, by repeat (first | exact Below.refl _ _ | apply below_alloc | apply below_drew1 | apply pw_below_drewN | assumption)⟩
  · skip
    have b0 : (x.op == y.op) = false := beq_eq_false_iff_ne.mpr h0
    have d0 : (x.op != y.op) = true := bne_iff_ne.mpr h0
    have hfin : decide (x = y) = false := decide_eq_false (fun e => h0 (by rw [e]))
    have HF := Aside0.mk hfin
    clear hfin
    clear h0
    go_enter Try.func166, Try.ntmps166
    go_wp2
    go_ret
    exact ⟨by rw [HF.out]; rfl, by repeat (first | exact Below.refl _ _ | apply below_alloc | apply below_drew1 | apply pw_below_drewN | assumption)⟩
set_option maxHeartbeats 4000000 in
set_option maxRecDepth 100000 in
theorem eqInsS (A B : Option Addr) (c d : Nat) (l m : List Ins) (w : World) (hr : kIns.C w A l.length l) (hr2 : kIns.C w B m.length m) :
    Calls Try.prog 140 #[.slice A l.length c, .slice B m.length d] w fun e w' => e = .returned (.bool (decide (l = m))) ∧ Below w.heap.size w w' := by
  have hL : l.length ≤ 9223372036854775807 := hr.2.1
  by_cases hlen : l.length = m.length
  · have b1 : ((l.length : Int) != (m.length : Int)) = false := by simp [hlen]
    have HR := Aside0.mk hr; have HR2 := Aside0.mk hr2; have HL := Aside0.mk hlen
    clear hr hr2 hlen
    go_enter Try.func140, Try.ntmps140
    go_wp2
    go_loopw [5] (fun v wr => ∃ j : Nat, v = .int .i64 j ∧ j ≤ l.length ∧ Aside0 (∀ i : Nat, i < j → el zIns l i = el zIns m i) ∧ Aside0 (Below w.heap.size w wr)) (fun v _ => l.length - (intOf v).toNat)
    case atStart => exact ⟨0, rfl, by omega, ⟨fun i hi => by omega⟩, ⟨Below.refl _ _⟩⟩
    case round =>
      obtain ⟨j, rfl, hj, HE, HW⟩ := hrel
      by_cases hlt : j < l.length
      · obtain ⟨pa, rfl, pK, px0, px1, px2⟩ := Ins_at (Kd.C_below HR.out HW.out) j hlt
        have pK2 := Aside0.mk pK; clear pK
        obtain ⟨qa, rfl, qK, qx0, qx1, qx2⟩ := Ins_at (Kd.C_below HR2.out HW.out) j (by have := HL.out; omega)
        have qK2 := Aside0.mk qK; clear qK
        have i1 : (0 : Int) ≤ (j : Int) := by omega
        have i2 : (j : Int) < (l.length : Int) := by omega
        have i3 : (j : Int) < (m.length : Int) := by have := HL.out; omega
        by_cases he : el zIns l j = el zIns m j
        · have b2 : decide (el zIns l j = el zIns m j) = true := decide_eq_true he
          have HE2 := Aside0.mk he
          clear he
          go_wp2
          have HS : Aside0 (∀ W : World, Below wr.heap.size wr W → W.cell? (pa.add (j * 3)) = some (.int .i64 (el zIns l j).op) ∧ W.cell? ⟨(pa.add (j * 3)).block, (pa.add (j * 3)).off + 1, none⟩ = some (.int .i64 (el zIns l j).a) ∧ W.cell? ⟨(pa.add (j * 3)).block, (pa.add (j * 3)).off + 2, none⟩ = some (.int .i64 (el zIns l j).b) ∧ W.cell? (qa.add (j * 3)) = some (.int .i64 (el zIns m j).op) ∧ W.cell? ⟨(qa.add (j * 3)).block, (qa.add (j * 3)).off + 1, none⟩ = some (.int .i64 (el zIns m j).a) ∧ W.cell? ⟨(qa.add (j * 3)).block, (qa.add (j * 3)).off + 2, none⟩ = some (.int .i64 (el zIns m j).b)) := ⟨fun W hB => ⟨pw_cell_below hB px0, pw_cell_below hB px1, pw_cell_below hB px2, pw_cell_below hB qx0, pw_cell_below hB qx1, pw_cell_below hB qx2⟩⟩
          go_region_held3 (fun W => W.cell? (pa.add (j * 3)) = some (.int .i64 (el zIns l j).op) ∧ W.cell? ⟨(pa.add (j * 3)).block, (pa.add (j * 3)).off + 1, none⟩ = some (.int .i64 (el zIns l j).a) ∧ W.cell? ⟨(pa.add (j * 3)).block, (pa.add (j * 3)).off + 2, none⟩ = some (.int .i64 (el zIns l j).b) ∧ W.cell? (qa.add (j * 3)) = some (.int .i64 (el zIns m j).op) ∧ W.cell? ⟨(qa.add (j * 3)).block, (qa.add (j * 3)).off + 1, none⟩ = some (.int .i64 (el zIns m j).a) ∧ W.cell? ⟨(qa.add (j * 3)).block, (qa.add (j * 3)).off + 2, none⟩ = some (.int .i64 (el zIns m j).b)) (first | exact HS.out _ (below_step (below_drew1 (Below.refl _ _)) hb) | exact HS.out _ (below_drew1 (Below.refl _ _))) (first | (go_at_call 166; refine (eqIns (el zIns l j) (el zIns m j) _ _ _ ?s1 ?s2).mono ?_; (case s1 => exact Kd.K_drew0 pK2.out); (case s2 => exact Kd.K_drew0 qK2.out); rintro e w1 ⟨rfl, hb⟩))
          go_wp2
          go_roundw
          case rel => exact ⟨j + 1, by go_num, by omega, ⟨fun i hi => by rcases Nat.lt_succ_iff_lt_or_eq.1 hi with h | h; exact HE.out i h; rw [h]; exact HE2.out⟩, ⟨below_step (below_drew1 HW.out) hb⟩⟩
          case measure => simp [intOf]; omega
        · have b2 : decide (el zIns l j = el zIns m j) = false := decide_eq_false he
          have HE2 := Aside0.mk he
          clear he
          go_wp2
          have HS : Aside0 (∀ W : World, Below wr.heap.size wr W → W.cell? (pa.add (j * 3)) = some (.int .i64 (el zIns l j).op) ∧ W.cell? ⟨(pa.add (j * 3)).block, (pa.add (j * 3)).off + 1, none⟩ = some (.int .i64 (el zIns l j).a) ∧ W.cell? ⟨(pa.add (j * 3)).block, (pa.add (j * 3)).off + 2, none⟩ = some (.int .i64 (el zIns l j).b) ∧ W.cell? (qa.add (j * 3)) = some (.int .i64 (el zIns m j).op) ∧ W.cell? ⟨(qa.add (j * 3)).block, (qa.add (j * 3)).off + 1, none⟩ = some (.int .i64 (el zIns m j).a) ∧ W.cell? ⟨(qa.add (j * 3)).block, (qa.add (j * 3)).off + 2, none⟩ = some (.int .i64 (el zIns m j).b)) := ⟨fun W hB => ⟨pw_cell_below hB px0, pw_cell_below hB px1, pw_cell_below hB px2, pw_cell_below hB qx0, pw_cell_below hB qx1, pw_cell_below hB qx2⟩⟩
          go_region_held3 (fun W => W.cell? (pa.add (j * 3)) = some (.int .i64 (el zIns l j).op) ∧ W.cell? ⟨(pa.add (j * 3)).block, (pa.add (j * 3)).off + 1, none⟩ = some (.int .i64 (el zIns l j).a) ∧ W.cell? ⟨(pa.add (j * 3)).block, (pa.add (j * 3)).off + 2, none⟩ = some (.int .i64 (el zIns l j).b) ∧ W.cell? (qa.add (j * 3)) = some (.int .i64 (el zIns m j).op) ∧ W.cell? ⟨(qa.add (j * 3)).block, (qa.add (j * 3)).off + 1, none⟩ = some (.int .i64 (el zIns m j).a) ∧ W.cell? ⟨(qa.add (j * 3)).block, (qa.add (j * 3)).off + 2, none⟩ = some (.int .i64 (el zIns m j).b)) (first | exact HS.out _ (below_step (below_drew1 (Below.refl _ _)) hb) | exact HS.out _ (below_drew1 (Below.refl _ _))) (first | (go_at_call 166; refine (eqIns (el zIns l j) (el zIns m j) _ _ _ ?s1 ?s2).mono ?_; (case s1 => exact Kd.K_drew0 pK2.out); (case s2 => exact Kd.K_drew0 qK2.out); rintro e w1 ⟨rfl, hb⟩))
          go_wp2
          go_ret
          exact ⟨by rw [decide_eq_false (fun h => HE2.out (by rw [h]))]; rfl, below_step (below_drew1 HW.out) hb⟩
      · go_wp2
        go_ret
        exact ⟨by rw [decide_eq_true (el_ext zIns HL.out (fun i hi => HE.out i (by omega)))]; rfl, HW.out⟩
  · have b1 : ((l.length : Int) != (m.length : Int)) = true := by simp; omega
    have HL := Aside0.mk hlen
    clear hr hr2 hlen
    go_enter Try.func140, Try.ntmps140
    go_wp2
    go_ret
    exact ⟨by rw [decide_eq_false (fun h => HL.out (by rw [h]))]; rfl, Below.refl _ _⟩
set_option maxHeartbeats 4000000 in
set_option maxRecDepth 100000 in
theorem eqCap (x y : Cap) (cs ds : List Value) (w : World) (hk : kCap.K w x cs) (hk2 : kCap.K w y ds) :
    Calls Try.prog 165 #[.agg ⟨cs⟩, .agg ⟨ds⟩] w fun e w' => e = .returned (.bool (decide (x = y))) ∧ Below w.heap.size w w' := by
  have ecs := kCap_open hk
  subst ecs
  have eds := kCap_open hk2
  subst eds
  clear hk hk2
  have hu := Try.underlying105
  by_cases h0 : x.reg = y.reg
  · skip
    have b0 : (x.reg == y.reg) = true := beq_iff_eq.mpr h0
    have d0 : (x.reg != y.reg) = false := bne_eq_false_iff_eq.mpr h0
    by_cases h1 : x.index = y.index
    · skip
      have b1 : (x.index == y.index) = true := beq_iff_eq.mpr h1
      have d1 : (x.index != y.index) = false := bne_eq_false_iff_eq.mpr h1
      have hfin : decide (x = y) = true := decide_eq_true (by cases x; cases y; simp_all)
      have HF := Aside0.mk hfin
      clear hfin
      clear h0
      clear h1
      go_enter Try.func165, Try.ntmps165
      go_wp2
      go_ret
      exact ⟨by rw [HF.out]; rfl, by repeat (first | exact Below.refl _ _ | apply below_alloc | apply below_drew1 | apply pw_below_drewN | assumption)⟩
    · skip
      have b1 : (x.index == y.index) = false := beq_eq_false_iff_ne.mpr h1
      have d1 : (x.index != y.index) = true := bne_iff_ne.mpr h1
      have hfin : decide (x = y) = false := decide_eq_false (fun e => h1 (by rw [e]))
      have HF := Aside0.mk hfin
      clear hfin
      clear h0
      clear h1
      go_enter Try.func165, Try.ntmps165
      go_wp2
      go_ret
      exact ⟨by rw [HF.out]; rfl, by repeat (first | exact Below.refl _ _ | apply below_alloc | apply below_drew1 | apply pw_below_drewN | assumption)⟩
  · skip
    have b0 : (x.reg == y.reg) = false := beq_eq_false_iff_ne.mpr h0
    have d0 : (x.reg != y.reg) = true := bne_iff_ne.mpr h0
    have hfin : decide (x = y) = false := decide_eq_false (fun e => h0 (by rw [e]))
    have HF := Aside0.mk hfin
    clear hfin
    clear h0
    go_enter Try.func165, Try.ntmps165
    go_wp2
    go_ret
    exact ⟨by rw [HF.out]; rfl, by repeat (first | exact Below.refl _ _ | apply below_alloc | apply below_drew1 | apply pw_below_drewN | assumption)⟩
set_option maxHeartbeats 4000000 in
set_option maxRecDepth 100000 in
theorem eqCapS (A B : Option Addr) (c d : Nat) (l m : List Cap) (w : World) (hr : kCap.C w A l.length l) (hr2 : kCap.C w B m.length m) :
    Calls Try.prog 139 #[.slice A l.length c, .slice B m.length d] w fun e w' => e = .returned (.bool (decide (l = m))) ∧ Below w.heap.size w w' := by
  have hL : l.length ≤ 9223372036854775807 := hr.2.1
  by_cases hlen : l.length = m.length
  · have b1 : ((l.length : Int) != (m.length : Int)) = false := by simp [hlen]
    have HR := Aside0.mk hr; have HR2 := Aside0.mk hr2; have HL := Aside0.mk hlen
    clear hr hr2 hlen
    go_enter Try.func139, Try.ntmps139
    go_wp2
    go_loopw [5] (fun v wr => ∃ j : Nat, v = .int .i64 j ∧ j ≤ l.length ∧ Aside0 (∀ i : Nat, i < j → el zCap l i = el zCap m i) ∧ Aside0 (Below w.heap.size w wr)) (fun v _ => l.length - (intOf v).toNat)
    case atStart => exact ⟨0, rfl, by omega, ⟨fun i hi => by omega⟩, ⟨Below.refl _ _⟩⟩
    case round =>
      obtain ⟨j, rfl, hj, HE, HW⟩ := hrel
      by_cases hlt : j < l.length
      · obtain ⟨pa, rfl, pK, px0, px1⟩ := Cap_at (Kd.C_below HR.out HW.out) j hlt
        have pK2 := Aside0.mk pK; clear pK
        obtain ⟨qa, rfl, qK, qx0, qx1⟩ := Cap_at (Kd.C_below HR2.out HW.out) j (by have := HL.out; omega)
        have qK2 := Aside0.mk qK; clear qK
        have i1 : (0 : Int) ≤ (j : Int) := by omega
        have i2 : (j : Int) < (l.length : Int) := by omega
        have i3 : (j : Int) < (m.length : Int) := by have := HL.out; omega
        by_cases he : el zCap l j = el zCap m j
        · have b2 : decide (el zCap l j = el zCap m j) = true := decide_eq_true he
          have HE2 := Aside0.mk he
          clear he
          go_wp2
          have HS : Aside0 (∀ W : World, Below wr.heap.size wr W → W.cell? (pa.add (j * 2)) = some (.bool (el zCap l j).reg) ∧ W.cell? ⟨(pa.add (j * 2)).block, (pa.add (j * 2)).off + 1, none⟩ = some (.int .i64 (el zCap l j).index) ∧ W.cell? (qa.add (j * 2)) = some (.bool (el zCap m j).reg) ∧ W.cell? ⟨(qa.add (j * 2)).block, (qa.add (j * 2)).off + 1, none⟩ = some (.int .i64 (el zCap m j).index)) := ⟨fun W hB => ⟨pw_cell_below hB px0, pw_cell_below hB px1, pw_cell_below hB qx0, pw_cell_below hB qx1⟩⟩
          go_region_held3 (fun W => W.cell? (pa.add (j * 2)) = some (.bool (el zCap l j).reg) ∧ W.cell? ⟨(pa.add (j * 2)).block, (pa.add (j * 2)).off + 1, none⟩ = some (.int .i64 (el zCap l j).index) ∧ W.cell? (qa.add (j * 2)) = some (.bool (el zCap m j).reg) ∧ W.cell? ⟨(qa.add (j * 2)).block, (qa.add (j * 2)).off + 1, none⟩ = some (.int .i64 (el zCap m j).index)) (first | exact HS.out _ (below_step (below_drew1 (Below.refl _ _)) hb) | exact HS.out _ (below_drew1 (Below.refl _ _))) (first | (go_at_call 165; refine (eqCap (el zCap l j) (el zCap m j) _ _ _ ?s1 ?s2).mono ?_; (case s1 => exact Kd.K_drew0 pK2.out); (case s2 => exact Kd.K_drew0 qK2.out); rintro e w1 ⟨rfl, hb⟩))
          go_wp2
          go_roundw
          case rel => exact ⟨j + 1, by go_num, by omega, ⟨fun i hi => by rcases Nat.lt_succ_iff_lt_or_eq.1 hi with h | h; exact HE.out i h; rw [h]; exact HE2.out⟩, ⟨below_step (below_drew1 HW.out) hb⟩⟩
          case measure => simp [intOf]; omega
        · have b2 : decide (el zCap l j = el zCap m j) = false := decide_eq_false he
          have HE2 := Aside0.mk he
          clear he
          go_wp2
          have HS : Aside0 (∀ W : World, Below wr.heap.size wr W → W.cell? (pa.add (j * 2)) = some (.bool (el zCap l j).reg) ∧ W.cell? ⟨(pa.add (j * 2)).block, (pa.add (j * 2)).off + 1, none⟩ = some (.int .i64 (el zCap l j).index) ∧ W.cell? (qa.add (j * 2)) = some (.bool (el zCap m j).reg) ∧ W.cell? ⟨(qa.add (j * 2)).block, (qa.add (j * 2)).off + 1, none⟩ = some (.int .i64 (el zCap m j).index)) := ⟨fun W hB => ⟨pw_cell_below hB px0, pw_cell_below hB px1, pw_cell_below hB qx0, pw_cell_below hB qx1⟩⟩
          go_region_held3 (fun W => W.cell? (pa.add (j * 2)) = some (.bool (el zCap l j).reg) ∧ W.cell? ⟨(pa.add (j * 2)).block, (pa.add (j * 2)).off + 1, none⟩ = some (.int .i64 (el zCap l j).index) ∧ W.cell? (qa.add (j * 2)) = some (.bool (el zCap m j).reg) ∧ W.cell? ⟨(qa.add (j * 2)).block, (qa.add (j * 2)).off + 1, none⟩ = some (.int .i64 (el zCap m j).index)) (first | exact HS.out _ (below_step (below_drew1 (Below.refl _ _)) hb) | exact HS.out _ (below_drew1 (Below.refl _ _))) (first | (go_at_call 165; refine (eqCap (el zCap l j) (el zCap m j) _ _ _ ?s1 ?s2).mono ?_; (case s1 => exact Kd.K_drew0 pK2.out); (case s2 => exact Kd.K_drew0 qK2.out); rintro e w1 ⟨rfl, hb⟩))
          go_wp2
          go_ret
          exact ⟨by rw [decide_eq_false (fun h => HE2.out (by rw [h]))]; rfl, below_step (below_drew1 HW.out) hb⟩
      · go_wp2
        go_ret
        exact ⟨by rw [decide_eq_true (el_ext zCap HL.out (fun i hi => HE.out i (by omega)))]; rfl, HW.out⟩
  · have b1 : ((l.length : Int) != (m.length : Int)) = true := by simp; omega
    have HL := Aside0.mk hlen
    clear hr hr2 hlen
    go_enter Try.func139, Try.ntmps139
    go_wp2
    go_ret
    exact ⟨by rw [decide_eq_false (fun h => HL.out (by rw [h]))]; rfl, Below.refl _ _⟩
set_option maxHeartbeats 4000000 in
set_option maxRecDepth 100000 in
theorem eqHandler (x y : Handler) (cs ds : List Value) (w : World) (hk : kHandler.K w x cs) (hk2 : kHandler.K w y ds) :
    Calls Try.prog 167 #[.agg ⟨cs⟩, .agg ⟨ds⟩] w fun e w' => e = .returned (.bool (decide (x = y))) ∧ Below w.heap.size w w' := by
  have ecs := kHandler_open hk
  subst ecs
  have eds := kHandler_open hk2
  subst eds
  clear hk hk2
  have hu := Try.underlying107
  by_cases h0 : x.from_ = y.from_
  · skip
    have b0 : (x.from_ == y.from_) = true := beq_iff_eq.mpr h0
    have d0 : (x.from_ != y.from_) = false := bne_eq_false_iff_eq.mpr h0
    by_cases h1 : x.to_ = y.to_
    · skip
      have b1 : (x.to_ == y.to_) = true := beq_iff_eq.mpr h1
      have d1 : (x.to_ != y.to_) = false := bne_eq_false_iff_eq.mpr h1
      by_cases h2 : x.target = y.target
      · skip
        have b2 : (x.target == y.target) = true := beq_iff_eq.mpr h2
        have d2 : (x.target != y.target) = false := bne_eq_false_iff_eq.mpr h2
        have hfin : decide (x = y) = true := decide_eq_true (by cases x; cases y; simp_all)
        have HF := Aside0.mk hfin
        clear hfin
        clear h0
        clear h1
        clear h2
        go_enter Try.func167, Try.ntmps167
        go_wp2
        go_ret
        exact ⟨by rw [HF.out]; rfl, by repeat (first | exact Below.refl _ _ | apply below_alloc | apply below_drew1 | apply pw_below_drewN | assumption)⟩
      · skip
        have b2 : (x.target == y.target) = false := beq_eq_false_iff_ne.mpr h2
        have d2 : (x.target != y.target) = true := bne_iff_ne.mpr h2
        have hfin : decide (x = y) = false := decide_eq_false (fun e => h2 (by rw [e]))
        have HF := Aside0.mk hfin
        clear hfin
        clear h0
        clear h1
        clear h2
        go_enter Try.func167, Try.ntmps167
        go_wp2
        go_ret
        exact ⟨by rw [HF.out]; rfl, by repeat (first | exact Below.refl _ _ | apply below_alloc | apply below_drew1 | apply pw_below_drewN | assumption)⟩
    · skip
      have b1 : (x.to_ == y.to_) = false := beq_eq_false_iff_ne.mpr h1
      have d1 : (x.to_ != y.to_) = true := bne_iff_ne.mpr h1
      have hfin : decide (x = y) = false := decide_eq_false (fun e => h1 (by rw [e]))
      have HF := Aside0.mk hfin
      clear hfin
      clear h0
      clear h1
      go_enter Try.func167, Try.ntmps167
      go_wp2
      go_ret
      exact ⟨by rw [HF.out]; rfl, by repeat (first | exact Below.refl _ _ | apply below_alloc | apply below_drew1 | apply pw_below_drewN | assumption)⟩
  · skip
    have b0 : (x.from_ == y.from_) = false := beq_eq_false_iff_ne.mpr h0
    have d0 : (x.from_ != y.from_) = true := bne_iff_ne.mpr h0
    have hfin : decide (x = y) = false := decide_eq_false (fun e => h0 (by rw [e]))
    have HF := Aside0.mk hfin
    clear hfin
    clear h0
    go_enter Try.func167, Try.ntmps167
    go_wp2
    go_ret
    exact ⟨by rw [HF.out]; rfl, by repeat (first | exact Below.refl _ _ | apply below_alloc | apply below_drew1 | apply pw_below_drewN | assumption)⟩
set_option maxHeartbeats 4000000 in
set_option maxRecDepth 100000 in
theorem eqHandlerS (A B : Option Addr) (c d : Nat) (l m : List Handler) (w : World) (hr : kHandler.C w A l.length l) (hr2 : kHandler.C w B m.length m) :
    Calls Try.prog 141 #[.slice A l.length c, .slice B m.length d] w fun e w' => e = .returned (.bool (decide (l = m))) ∧ Below w.heap.size w w' := by
  have hL : l.length ≤ 9223372036854775807 := hr.2.1
  by_cases hlen : l.length = m.length
  · have b1 : ((l.length : Int) != (m.length : Int)) = false := by simp [hlen]
    have HR := Aside0.mk hr; have HR2 := Aside0.mk hr2; have HL := Aside0.mk hlen
    clear hr hr2 hlen
    go_enter Try.func141, Try.ntmps141
    go_wp2
    go_loopw [5] (fun v wr => ∃ j : Nat, v = .int .i64 j ∧ j ≤ l.length ∧ Aside0 (∀ i : Nat, i < j → el zHandler l i = el zHandler m i) ∧ Aside0 (Below w.heap.size w wr)) (fun v _ => l.length - (intOf v).toNat)
    case atStart => exact ⟨0, rfl, by omega, ⟨fun i hi => by omega⟩, ⟨Below.refl _ _⟩⟩
    case round =>
      obtain ⟨j, rfl, hj, HE, HW⟩ := hrel
      by_cases hlt : j < l.length
      · obtain ⟨pa, rfl, pK, px0, px1, px2⟩ := Handler_at (Kd.C_below HR.out HW.out) j hlt
        have pK2 := Aside0.mk pK; clear pK
        obtain ⟨qa, rfl, qK, qx0, qx1, qx2⟩ := Handler_at (Kd.C_below HR2.out HW.out) j (by have := HL.out; omega)
        have qK2 := Aside0.mk qK; clear qK
        have i1 : (0 : Int) ≤ (j : Int) := by omega
        have i2 : (j : Int) < (l.length : Int) := by omega
        have i3 : (j : Int) < (m.length : Int) := by have := HL.out; omega
        by_cases he : el zHandler l j = el zHandler m j
        · have b2 : decide (el zHandler l j = el zHandler m j) = true := decide_eq_true he
          have HE2 := Aside0.mk he
          clear he
          go_wp2
          have HS : Aside0 (∀ W : World, Below wr.heap.size wr W → W.cell? (pa.add (j * 3)) = some (.int .i64 (el zHandler l j).from_) ∧ W.cell? ⟨(pa.add (j * 3)).block, (pa.add (j * 3)).off + 1, none⟩ = some (.int .i64 (el zHandler l j).to_) ∧ W.cell? ⟨(pa.add (j * 3)).block, (pa.add (j * 3)).off + 2, none⟩ = some (.int .i64 (el zHandler l j).target) ∧ W.cell? (qa.add (j * 3)) = some (.int .i64 (el zHandler m j).from_) ∧ W.cell? ⟨(qa.add (j * 3)).block, (qa.add (j * 3)).off + 1, none⟩ = some (.int .i64 (el zHandler m j).to_) ∧ W.cell? ⟨(qa.add (j * 3)).block, (qa.add (j * 3)).off + 2, none⟩ = some (.int .i64 (el zHandler m j).target)) := ⟨fun W hB => ⟨pw_cell_below hB px0, pw_cell_below hB px1, pw_cell_below hB px2, pw_cell_below hB qx0, pw_cell_below hB qx1, pw_cell_below hB qx2⟩⟩
          go_region_held3 (fun W => W.cell? (pa.add (j * 3)) = some (.int .i64 (el zHandler l j).from_) ∧ W.cell? ⟨(pa.add (j * 3)).block, (pa.add (j * 3)).off + 1, none⟩ = some (.int .i64 (el zHandler l j).to_) ∧ W.cell? ⟨(pa.add (j * 3)).block, (pa.add (j * 3)).off + 2, none⟩ = some (.int .i64 (el zHandler l j).target) ∧ W.cell? (qa.add (j * 3)) = some (.int .i64 (el zHandler m j).from_) ∧ W.cell? ⟨(qa.add (j * 3)).block, (qa.add (j * 3)).off + 1, none⟩ = some (.int .i64 (el zHandler m j).to_) ∧ W.cell? ⟨(qa.add (j * 3)).block, (qa.add (j * 3)).off + 2, none⟩ = some (.int .i64 (el zHandler m j).target)) (first | exact HS.out _ (below_step (below_drew1 (Below.refl _ _)) hb) | exact HS.out _ (below_drew1 (Below.refl _ _))) (first | (go_at_call 167; refine (eqHandler (el zHandler l j) (el zHandler m j) _ _ _ ?s1 ?s2).mono ?_; (case s1 => exact Kd.K_drew0 pK2.out); (case s2 => exact Kd.K_drew0 qK2.out); rintro e w1 ⟨rfl, hb⟩))
          go_wp2
          go_roundw
          case rel => exact ⟨j + 1, by go_num, by omega, ⟨fun i hi => by rcases Nat.lt_succ_iff_lt_or_eq.1 hi with h | h; exact HE.out i h; rw [h]; exact HE2.out⟩, ⟨below_step (below_drew1 HW.out) hb⟩⟩
          case measure => simp [intOf]; omega
        · have b2 : decide (el zHandler l j = el zHandler m j) = false := decide_eq_false he
          have HE2 := Aside0.mk he
          clear he
          go_wp2
          have HS : Aside0 (∀ W : World, Below wr.heap.size wr W → W.cell? (pa.add (j * 3)) = some (.int .i64 (el zHandler l j).from_) ∧ W.cell? ⟨(pa.add (j * 3)).block, (pa.add (j * 3)).off + 1, none⟩ = some (.int .i64 (el zHandler l j).to_) ∧ W.cell? ⟨(pa.add (j * 3)).block, (pa.add (j * 3)).off + 2, none⟩ = some (.int .i64 (el zHandler l j).target) ∧ W.cell? (qa.add (j * 3)) = some (.int .i64 (el zHandler m j).from_) ∧ W.cell? ⟨(qa.add (j * 3)).block, (qa.add (j * 3)).off + 1, none⟩ = some (.int .i64 (el zHandler m j).to_) ∧ W.cell? ⟨(qa.add (j * 3)).block, (qa.add (j * 3)).off + 2, none⟩ = some (.int .i64 (el zHandler m j).target)) := ⟨fun W hB => ⟨pw_cell_below hB px0, pw_cell_below hB px1, pw_cell_below hB px2, pw_cell_below hB qx0, pw_cell_below hB qx1, pw_cell_below hB qx2⟩⟩
          go_region_held3 (fun W => W.cell? (pa.add (j * 3)) = some (.int .i64 (el zHandler l j).from_) ∧ W.cell? ⟨(pa.add (j * 3)).block, (pa.add (j * 3)).off + 1, none⟩ = some (.int .i64 (el zHandler l j).to_) ∧ W.cell? ⟨(pa.add (j * 3)).block, (pa.add (j * 3)).off + 2, none⟩ = some (.int .i64 (el zHandler l j).target) ∧ W.cell? (qa.add (j * 3)) = some (.int .i64 (el zHandler m j).from_) ∧ W.cell? ⟨(qa.add (j * 3)).block, (qa.add (j * 3)).off + 1, none⟩ = some (.int .i64 (el zHandler m j).to_) ∧ W.cell? ⟨(qa.add (j * 3)).block, (qa.add (j * 3)).off + 2, none⟩ = some (.int .i64 (el zHandler m j).target)) (first | exact HS.out _ (below_step (below_drew1 (Below.refl _ _)) hb) | exact HS.out _ (below_drew1 (Below.refl _ _))) (first | (go_at_call 167; refine (eqHandler (el zHandler l j) (el zHandler m j) _ _ _ ?s1 ?s2).mono ?_; (case s1 => exact Kd.K_drew0 pK2.out); (case s2 => exact Kd.K_drew0 qK2.out); rintro e w1 ⟨rfl, hb⟩))
          go_wp2
          go_ret
          exact ⟨by rw [decide_eq_false (fun h => HE2.out (by rw [h]))]; rfl, below_step (below_drew1 HW.out) hb⟩
      · go_wp2
        go_ret
        exact ⟨by rw [decide_eq_true (el_ext zHandler HL.out (fun i hi => HE.out i (by omega)))]; rfl, HW.out⟩
  · have b1 : ((l.length : Int) != (m.length : Int)) = true := by simp; omega
    have HL := Aside0.mk hlen
    clear hr hr2 hlen
    go_enter Try.func141, Try.ntmps141
    go_wp2
    go_ret
    exact ⟨by rw [decide_eq_false (fun h => HL.out (by rw [h]))]; rfl, Below.refl _ _⟩
set_option maxHeartbeats 4000000 in
set_option maxRecDepth 100000 in
theorem eqConst (x y : Const) (cs ds : List Value) (w : World) (hk : kConst.K w x cs) (hk2 : kConst.K w y ds) :
    Calls Try.prog 105 #[.agg ⟨cs⟩, .agg ⟨ds⟩] w fun e w' => e = .returned (.bool (decide (x = y))) ∧ Below w.heap.size w w' := by
  have ecs := kConst_open hk
  subst ecs
  have eds := kConst_open hk2
  subst eds
  clear hk hk2
  have hu := Try.underlying100
  by_cases h0 : x.kind = y.kind
  · skip
    have b0 : (x.kind == y.kind) = true := beq_iff_eq.mpr h0
    have d0 : (x.kind != y.kind) = false := bne_eq_false_iff_eq.mpr h0
    by_cases h1 : x.num = y.num
    · skip
      have b1 : (x.num == y.num) = true := beq_iff_eq.mpr h1
      have d1 : (x.num != y.num) = false := bne_eq_false_iff_eq.mpr h1
      by_cases h2 : x.text = y.text
      · skip
        have b2 : (x.text.toList == y.text.toList) = true := by rw [h2]; exact beq_self_eq_true _
        have d2 : (x.text.toList != y.text.toList) = false := by rw [h2]; exact bne_self_eq_false _
        have hfin : decide (x = y) = true := decide_eq_true (by cases x; cases y; simp_all)
        have HF := Aside0.mk hfin
        clear hfin
        clear h0
        clear h1
        clear h2
        go_enter Try.func105, Try.ntmps105
        go_wp2
        go_ret
        exact ⟨by rw [HF.out]; rfl, by repeat (first | exact Below.refl _ _ | apply below_alloc | apply below_drew1 | apply pw_below_drewN | assumption)⟩
      · skip
        have n2 : ¬ x.text.toList = y.text.toList := fun e => h2 (bytes_ext e)
        have b2 : (x.text.toList == y.text.toList) = false := beq_eq_false_iff_ne.mpr n2
        have d2 : (x.text.toList != y.text.toList) = true := bne_iff_ne.mpr n2
        clear n2
        have hfin : decide (x = y) = false := decide_eq_false (fun e => h2 (by rw [e]))
        have HF := Aside0.mk hfin
        clear hfin
        clear h0
        clear h1
        clear h2
        go_enter Try.func105, Try.ntmps105
        go_wp2
        go_ret
        exact ⟨by rw [HF.out]; rfl, by repeat (first | exact Below.refl _ _ | apply below_alloc | apply below_drew1 | apply pw_below_drewN | assumption)⟩
    · skip
      have b1 : (x.num == y.num) = false := beq_eq_false_iff_ne.mpr h1
      have d1 : (x.num != y.num) = true := bne_iff_ne.mpr h1
      have hfin : decide (x = y) = false := decide_eq_false (fun e => h1 (by rw [e]))
      have HF := Aside0.mk hfin
      clear hfin
      clear h0
      clear h1
      go_enter Try.func105, Try.ntmps105
      go_wp2
      go_ret
      exact ⟨by rw [HF.out]; rfl, by repeat (first | exact Below.refl _ _ | apply below_alloc | apply below_drew1 | apply pw_below_drewN | assumption)⟩
  · skip
    have b0 : (x.kind == y.kind) = false := beq_eq_false_iff_ne.mpr h0
    have d0 : (x.kind != y.kind) = true := bne_iff_ne.mpr h0
    have hfin : decide (x = y) = false := decide_eq_false (fun e => h0 (by rw [e]))
    have HF := Aside0.mk hfin
    clear hfin
    clear h0
    go_enter Try.func105, Try.ntmps105
    go_wp2
    go_ret
    exact ⟨by rw [HF.out]; rfl, by repeat (first | exact Below.refl _ _ | apply below_alloc | apply below_drew1 | apply pw_below_drewN | assumption)⟩
set_option maxHeartbeats 4000000 in
set_option maxRecDepth 100000 in
theorem eqConstS (A B : Option Addr) (c d : Nat) (l m : List Const) (w : World) (hr : kConst.C w A l.length l) (hr2 : kConst.C w B m.length m) :
    Calls Try.prog 63 #[.slice A l.length c, .slice B m.length d] w fun e w' => e = .returned (.bool (decide (l = m))) ∧ Below w.heap.size w w' := by
  have hL : l.length ≤ 9223372036854775807 := hr.2.1
  by_cases hlen : l.length = m.length
  · have b1 : ((l.length : Int) != (m.length : Int)) = false := by simp [hlen]
    have HR := Aside0.mk hr; have HR2 := Aside0.mk hr2; have HL := Aside0.mk hlen
    clear hr hr2 hlen
    go_enter Try.func63, Try.ntmps63
    go_wp2
    go_loopw [5] (fun v wr => ∃ j : Nat, v = .int .i64 j ∧ j ≤ l.length ∧ Aside0 (∀ i : Nat, i < j → el zConst l i = el zConst m i) ∧ Aside0 (Below w.heap.size w wr)) (fun v _ => l.length - (intOf v).toNat)
    case atStart => exact ⟨0, rfl, by omega, ⟨fun i hi => by omega⟩, ⟨Below.refl _ _⟩⟩
    case round =>
      obtain ⟨j, rfl, hj, HE, HW⟩ := hrel
      by_cases hlt : j < l.length
      · obtain ⟨pa, rfl, pK, px0, px1, px2⟩ := Const_at (Kd.C_below HR.out HW.out) j hlt
        have pK2 := Aside0.mk pK; clear pK
        obtain ⟨qa, rfl, qK, qx0, qx1, qx2⟩ := Const_at (Kd.C_below HR2.out HW.out) j (by have := HL.out; omega)
        have qK2 := Aside0.mk qK; clear qK
        have i1 : (0 : Int) ≤ (j : Int) := by omega
        have i2 : (j : Int) < (l.length : Int) := by omega
        have i3 : (j : Int) < (m.length : Int) := by have := HL.out; omega
        by_cases he : el zConst l j = el zConst m j
        · have b2 : decide (el zConst l j = el zConst m j) = true := decide_eq_true he
          have HE2 := Aside0.mk he
          clear he
          go_wp2
          have HS : Aside0 (∀ W : World, Below wr.heap.size wr W → W.cell? (pa.add (j * 3)) = some (.int .i64 (el zConst l j).kind) ∧ W.cell? ⟨(pa.add (j * 3)).block, (pa.add (j * 3)).off + 1, none⟩ = some (.int .u64 (el zConst l j).num) ∧ W.cell? ⟨(pa.add (j * 3)).block, (pa.add (j * 3)).off + 2, none⟩ = some (.string (el zConst l j).text) ∧ W.cell? (qa.add (j * 3)) = some (.int .i64 (el zConst m j).kind) ∧ W.cell? ⟨(qa.add (j * 3)).block, (qa.add (j * 3)).off + 1, none⟩ = some (.int .u64 (el zConst m j).num) ∧ W.cell? ⟨(qa.add (j * 3)).block, (qa.add (j * 3)).off + 2, none⟩ = some (.string (el zConst m j).text)) := ⟨fun W hB => ⟨pw_cell_below hB px0, pw_cell_below hB px1, pw_cell_below hB px2, pw_cell_below hB qx0, pw_cell_below hB qx1, pw_cell_below hB qx2⟩⟩
          go_region_held3 (fun W => W.cell? (pa.add (j * 3)) = some (.int .i64 (el zConst l j).kind) ∧ W.cell? ⟨(pa.add (j * 3)).block, (pa.add (j * 3)).off + 1, none⟩ = some (.int .u64 (el zConst l j).num) ∧ W.cell? ⟨(pa.add (j * 3)).block, (pa.add (j * 3)).off + 2, none⟩ = some (.string (el zConst l j).text) ∧ W.cell? (qa.add (j * 3)) = some (.int .i64 (el zConst m j).kind) ∧ W.cell? ⟨(qa.add (j * 3)).block, (qa.add (j * 3)).off + 1, none⟩ = some (.int .u64 (el zConst m j).num) ∧ W.cell? ⟨(qa.add (j * 3)).block, (qa.add (j * 3)).off + 2, none⟩ = some (.string (el zConst m j).text)) (first | exact HS.out _ (below_step (below_drew1 (Below.refl _ _)) hb) | exact HS.out _ (below_drew1 (Below.refl _ _))) (first | (go_at_call 105; refine (eqConst (el zConst l j) (el zConst m j) _ _ _ ?s1 ?s2).mono ?_; (case s1 => exact Kd.K_drew0 pK2.out); (case s2 => exact Kd.K_drew0 qK2.out); rintro e w1 ⟨rfl, hb⟩))
          go_wp2
          go_roundw
          case rel => exact ⟨j + 1, by go_num, by omega, ⟨fun i hi => by rcases Nat.lt_succ_iff_lt_or_eq.1 hi with h | h; exact HE.out i h; rw [h]; exact HE2.out⟩, ⟨below_step (below_drew1 HW.out) hb⟩⟩
          case measure => simp [intOf]; omega
        · have b2 : decide (el zConst l j = el zConst m j) = false := decide_eq_false he
          have HE2 := Aside0.mk he
          clear he
          go_wp2
          have HS : Aside0 (∀ W : World, Below wr.heap.size wr W → W.cell? (pa.add (j * 3)) = some (.int .i64 (el zConst l j).kind) ∧ W.cell? ⟨(pa.add (j * 3)).block, (pa.add (j * 3)).off + 1, none⟩ = some (.int .u64 (el zConst l j).num) ∧ W.cell? ⟨(pa.add (j * 3)).block, (pa.add (j * 3)).off + 2, none⟩ = some (.string (el zConst l j).text) ∧ W.cell? (qa.add (j * 3)) = some (.int .i64 (el zConst m j).kind) ∧ W.cell? ⟨(qa.add (j * 3)).block, (qa.add (j * 3)).off + 1, none⟩ = some (.int .u64 (el zConst m j).num) ∧ W.cell? ⟨(qa.add (j * 3)).block, (qa.add (j * 3)).off + 2, none⟩ = some (.string (el zConst m j).text)) := ⟨fun W hB => ⟨pw_cell_below hB px0, pw_cell_below hB px1, pw_cell_below hB px2, pw_cell_below hB qx0, pw_cell_below hB qx1, pw_cell_below hB qx2⟩⟩
          go_region_held3 (fun W => W.cell? (pa.add (j * 3)) = some (.int .i64 (el zConst l j).kind) ∧ W.cell? ⟨(pa.add (j * 3)).block, (pa.add (j * 3)).off + 1, none⟩ = some (.int .u64 (el zConst l j).num) ∧ W.cell? ⟨(pa.add (j * 3)).block, (pa.add (j * 3)).off + 2, none⟩ = some (.string (el zConst l j).text) ∧ W.cell? (qa.add (j * 3)) = some (.int .i64 (el zConst m j).kind) ∧ W.cell? ⟨(qa.add (j * 3)).block, (qa.add (j * 3)).off + 1, none⟩ = some (.int .u64 (el zConst m j).num) ∧ W.cell? ⟨(qa.add (j * 3)).block, (qa.add (j * 3)).off + 2, none⟩ = some (.string (el zConst m j).text)) (first | exact HS.out _ (below_step (below_drew1 (Below.refl _ _)) hb) | exact HS.out _ (below_drew1 (Below.refl _ _))) (first | (go_at_call 105; refine (eqConst (el zConst l j) (el zConst m j) _ _ _ ?s1 ?s2).mono ?_; (case s1 => exact Kd.K_drew0 pK2.out); (case s2 => exact Kd.K_drew0 qK2.out); rintro e w1 ⟨rfl, hb⟩))
          go_wp2
          go_ret
          exact ⟨by rw [decide_eq_false (fun h => HE2.out (by rw [h]))]; rfl, below_step (below_drew1 HW.out) hb⟩
      · go_wp2
        go_ret
        exact ⟨by rw [decide_eq_true (el_ext zConst HL.out (fun i hi => HE.out i (by omega)))]; rfl, HW.out⟩
  · have b1 : ((l.length : Int) != (m.length : Int)) = true := by simp; omega
    have HL := Aside0.mk hlen
    clear hr hr2 hlen
    go_enter Try.func63, Try.ntmps63
    go_wp2
    go_ret
    exact ⟨by rw [decide_eq_false (fun h => HL.out (by rw [h]))]; rfl, Below.refl _ _⟩
end Go.Proofs.Ytcbaokflimdjnaa
end
section
namespace Go.Proofs.Ytcbaokflimdjnaa
open Go.RowKit Go.Proofs.YtcbaokflimdjnaaW.PrintWords Go.Proofs.YtcbaokflimdjnaaW.PrintMore Go.Proofs.Ytcbaokflimdjnaa.Law Go.Proofs.Ytcbaokflimdjnaa.Num
set_option linter.unusedVariables false
set_option linter.unusedSimpArgs false
set_option maxHeartbeats 4000000 in
set_option maxRecDepth 100000 in
theorem eqFunc (x y : Func) (cs ds : List Value) (w : World) (hk : kFuncI.K w x cs) (hk2 : kFuncI.K w y ds) :
    Calls Try.prog 104 #[.agg ⟨cs⟩, .agg ⟨ds⟩] w fun e w' => e = .returned (.bool (decide (x = y))) ∧ Below w.heap.size w w' := by
  obtain ⟨pA2, pc2, pA3, pc3, pA4, pc4, rfl, pl2, pg2, pl3, pg3, pl4, pg4⟩ := kFuncI_open hk
  have pG2 := Aside0.mk pg2; have pL2 := Aside0.mk pl2; clear pg2 pl2
  have pG3 := Aside0.mk pg3; have pL3 := Aside0.mk pl3; clear pg3 pl3
  have pG4 := Aside0.mk pg4; have pL4 := Aside0.mk pl4; clear pg4 pl4
  obtain ⟨qA2, qc2, qA3, qc3, qA4, qc4, rfl, ql2, qg2, ql3, qg3, ql4, qg4⟩ := kFuncI_open hk2
  have qG2 := Aside0.mk qg2; have qL2 := Aside0.mk ql2; clear qg2 ql2
  have qG3 := Aside0.mk qg3; have qL3 := Aside0.mk ql3; clear qg3 ql3
  have qG4 := Aside0.mk qg4; have qL4 := Aside0.mk ql4; clear qg4 ql4
  clear hk hk2
  have hu := Try.underlying73
  have A0 := Aside0.mk (((At.start w).alloc #[.int .i64 x.params, .int .i64 x.regs, .slice pA2 x.caps.length pc2, .slice pA3 x.code.length pc3, .slice pA4 x.handlers.length pc4] 73).alloc #[.int .i64 y.params, .int .i64 y.regs, .slice qA2 y.caps.length qc2, .slice qA3 y.code.length qc3, .slice qA4 y.handlers.length qc4] 73)
  rw [show (w.alloc (.cells #[.int .i64 x.params, .int .i64 x.regs, .slice pA2 x.caps.length pc2, .slice pA3 x.code.length pc3, .slice pA4 x.handlers.length pc4] 73)).heap.size = w.heap.size + 1 by simp] at A0
  by_cases h0 : x.params = y.params
  · skip
    have b0 : (x.params == y.params) = true := beq_iff_eq.mpr h0
    have d0 : (x.params != y.params) = false := bne_eq_false_iff_eq.mpr h0
    by_cases h1 : x.regs = y.regs
    · skip
      have b1 : (x.regs == y.regs) = true := beq_iff_eq.mpr h1
      have d1 : (x.regs != y.regs) = false := bne_eq_false_iff_eq.mpr h1
      by_cases h2 : x.caps = y.caps
      · skip
        have d2 : decide (x.caps = y.caps) = true := decide_eq_true h2
        by_cases h3 : x.code = y.code
        · skip
          have d3 : decide (x.code = y.code) = true := decide_eq_true h3
          by_cases h4 : x.handlers = y.handlers
          · skip
            have d4 : decide (x.handlers = y.handlers) = true := decide_eq_true h4
            have hfin : decide (x = y) = true := decide_eq_true (by cases x; cases y; simp_all)
            have HF := Aside0.mk hfin
            clear hfin
            clear h0
            clear h1
            clear h2
            clear h3
            clear h4
            go_enter Try.func104, Try.ntmps104
            go_wp2_with fail
            refine (eqCapS _ _ _ _ _ _ _ (A0.out.reads pG2.out) (A0.out.reads qG2.out)).mono ?_
            rintro e w1 ⟨rfl, hb0⟩
            have hb := hb0
            have A1 := Aside0.mk (A0.out.step hb)
            clear hb hb0 A0
            have z0 := A1.out.cell1; have z1 := A1.out.cell0
            go_wp2_with fail
            refine (eqInsS _ _ _ _ _ _ _ (A1.out.reads pG3.out) (A1.out.reads qG3.out)).mono ?_
            rintro e w2 ⟨rfl, hb0⟩
            have hb := hb0
            have A2 := Aside0.mk (A1.out.step hb)
            clear hb hb0 A1 z0 z1
            have z0 := A2.out.cell1; have z1 := A2.out.cell0
            go_wp2_with fail
            refine (eqHandlerS _ _ _ _ _ _ _ (A2.out.reads pG4.out) (A2.out.reads qG4.out)).mono ?_
            rintro e w3 ⟨rfl, hb0⟩
            have hb := hb0
            have A3 := Aside0.mk (A2.out.step hb)
            clear hb hb0 A2 z0 z1
            have z0 := A3.out.cell1; have z1 := A3.out.cell0
            go_wp2
            go_ret
            exact ⟨by rw [HF.out]; rfl, A3.out.below⟩
          · skip
            have d4 : decide (x.handlers = y.handlers) = false := decide_eq_false h4
            have hfin : decide (x = y) = false := decide_eq_false (fun e => h4 (by rw [e]))
            have HF := Aside0.mk hfin
            clear hfin
            clear h0
            clear h1
            clear h2
            clear h3
            clear h4
            go_enter Try.func104, Try.ntmps104
            go_wp2_with fail
            refine (eqCapS _ _ _ _ _ _ _ (A0.out.reads pG2.out) (A0.out.reads qG2.out)).mono ?_
            rintro e w1 ⟨rfl, hb0⟩
            have hb := hb0
            have A1 := Aside0.mk (A0.out.step hb)
            clear hb hb0 A0
            have z0 := A1.out.cell1; have z1 := A1.out.cell0
            go_wp2_with fail
            refine (eqInsS _ _ _ _ _ _ _ (A1.out.reads pG3.out) (A1.out.reads qG3.out)).mono ?_
            rintro e w2 ⟨rfl, hb0⟩
            have hb := hb0
            have A2 := Aside0.mk (A1.out.step hb)
            clear hb hb0 A1 z0 z1
            have z0 := A2.out.cell1; have z1 := A2.out.cell0
            go_wp2_with fail
            refine (eqHandlerS _ _ _ _ _ _ _ (A2.out.reads pG4.out) (A2.out.reads qG4.out)).mono ?_
            rintro e w3 ⟨rfl, hb0⟩
            have hb := hb0
            have A3 := Aside0.mk (A2.out.step hb)
            clear hb hb0 A2 z0 z1
            have z0 := A3.out.cell1; have z1 := A3.out.cell0
            go_wp2
            go_ret
            exact ⟨by rw [HF.out]; rfl, A3.out.below⟩
        · skip
          have d3 : decide (x.code = y.code) = false := decide_eq_false h3
          have hfin : decide (x = y) = false := decide_eq_false (fun e => h3 (by rw [e]))
          have HF := Aside0.mk hfin
          clear hfin
          clear h0
          clear h1
          clear h2
          clear h3
          go_enter Try.func104, Try.ntmps104
          go_wp2_with fail
          refine (eqCapS _ _ _ _ _ _ _ (A0.out.reads pG2.out) (A0.out.reads qG2.out)).mono ?_
          rintro e w1 ⟨rfl, hb0⟩
          have hb := hb0
          have A1 := Aside0.mk (A0.out.step hb)
          clear hb hb0 A0
          have z0 := A1.out.cell1; have z1 := A1.out.cell0
          go_wp2_with fail
          refine (eqInsS _ _ _ _ _ _ _ (A1.out.reads pG3.out) (A1.out.reads qG3.out)).mono ?_
          rintro e w2 ⟨rfl, hb0⟩
          have hb := hb0
          have A2 := Aside0.mk (A1.out.step hb)
          clear hb hb0 A1 z0 z1
          have z0 := A2.out.cell1; have z1 := A2.out.cell0
          go_wp2
          go_ret
          exact ⟨by rw [HF.out]; rfl, A2.out.below⟩
      · skip
        have d2 : decide (x.caps = y.caps) = false := decide_eq_false h2
        have hfin : decide (x = y) = false := decide_eq_false (fun e => h2 (by rw [e]))
        have HF := Aside0.mk hfin
        clear hfin
        clear h0
        clear h1
        clear h2
        go_enter Try.func104, Try.ntmps104
        go_wp2_with fail
        refine (eqCapS _ _ _ _ _ _ _ (A0.out.reads pG2.out) (A0.out.reads qG2.out)).mono ?_
        rintro e w1 ⟨rfl, hb0⟩
        have hb := hb0
        have A1 := Aside0.mk (A0.out.step hb)
        clear hb hb0 A0
        have z0 := A1.out.cell1; have z1 := A1.out.cell0
        go_wp2
        go_ret
        exact ⟨by rw [HF.out]; rfl, A1.out.below⟩
    · skip
      have b1 : (x.regs == y.regs) = false := beq_eq_false_iff_ne.mpr h1
      have d1 : (x.regs != y.regs) = true := bne_iff_ne.mpr h1
      have hfin : decide (x = y) = false := decide_eq_false (fun e => h1 (by rw [e]))
      have HF := Aside0.mk hfin
      clear hfin
      clear h0
      clear h1
      go_enter Try.func104, Try.ntmps104
      go_wp2
      go_ret
      exact ⟨by rw [HF.out]; rfl, by repeat (first | exact Below.refl _ _ | apply below_alloc | apply below_drew1 | apply pw_below_drewN | assumption)⟩
  · skip
    have b0 : (x.params == y.params) = false := beq_eq_false_iff_ne.mpr h0
    have d0 : (x.params != y.params) = true := bne_iff_ne.mpr h0
    have hfin : decide (x = y) = false := decide_eq_false (fun e => h0 (by rw [e]))
    have HF := Aside0.mk hfin
    clear hfin
    clear h0
    go_enter Try.func104, Try.ntmps104
    go_wp2
    go_ret
    exact ⟨by rw [HF.out]; rfl, by repeat (first | exact Below.refl _ _ | apply below_alloc | apply below_drew1 | apply pw_below_drewN | assumption)⟩
set_option maxHeartbeats 4000000 in
set_option maxRecDepth 100000 in
theorem eqFuncS (A B : Option Addr) (c d : Nat) (l m : List Func) (w : World) (hr : kFuncI.C w A l.length l) (hr2 : kFuncI.C w B m.length m) :
    Calls Try.prog 62 #[.slice A l.length c, .slice B m.length d] w fun e w' => e = .returned (.bool (decide (l = m))) ∧ Below w.heap.size w w' := by
  have hL : l.length ≤ 9223372036854775807 := hr.2.1
  by_cases hlen : l.length = m.length
  · have b1 : ((l.length : Int) != (m.length : Int)) = false := by simp [hlen]
    have HR := Aside0.mk hr; have HR2 := Aside0.mk hr2; have HL := Aside0.mk hlen
    clear hr hr2 hlen
    go_enter Try.func62, Try.ntmps62
    go_wp2
    go_loopw [5] (fun v wr => ∃ j : Nat, v = .int .i64 j ∧ j ≤ l.length ∧ Aside0 (∀ i : Nat, i < j → el zFunc l i = el zFunc m i) ∧ Aside0 (Below w.heap.size w wr)) (fun v _ => l.length - (intOf v).toNat)
    case atStart => exact ⟨0, rfl, by omega, ⟨fun i hi => by omega⟩, ⟨Below.refl _ _⟩⟩
    case round =>
      obtain ⟨j, rfl, hj, HE, HW⟩ := hrel
      by_cases hlt : j < l.length
      · obtain ⟨pa, pA2, pc2, pA3, pc3, pA4, pc4, rfl, pK, px0, px1, px2, px3, px4⟩ := FuncI_at (Kd.C_below HR.out HW.out) j hlt
        have pK2 := Aside0.mk pK; clear pK
        obtain ⟨qa, qA2, qc2, qA3, qc3, qA4, qc4, rfl, qK, qx0, qx1, qx2, qx3, qx4⟩ := FuncI_at (Kd.C_below HR2.out HW.out) j (by have := HL.out; omega)
        have qK2 := Aside0.mk qK; clear qK
        have i1 : (0 : Int) ≤ (j : Int) := by omega
        have i2 : (j : Int) < (l.length : Int) := by omega
        have i3 : (j : Int) < (m.length : Int) := by have := HL.out; omega
        by_cases he : el zFunc l j = el zFunc m j
        · have b2 : decide (el zFunc l j = el zFunc m j) = true := decide_eq_true he
          have HE2 := Aside0.mk he
          clear he
          go_wp2
          have HS : Aside0 (∀ W : World, Below wr.heap.size wr W → W.cell? (pa.add (j * 5)) = some (.int .i64 (el zFunc l j).params) ∧ W.cell? ⟨(pa.add (j * 5)).block, (pa.add (j * 5)).off + 1, none⟩ = some (.int .i64 (el zFunc l j).regs) ∧ W.cell? ⟨(pa.add (j * 5)).block, (pa.add (j * 5)).off + 2, none⟩ = some (.slice pA2 (el zFunc l j).caps.length pc2) ∧ W.cell? ⟨(pa.add (j * 5)).block, (pa.add (j * 5)).off + 3, none⟩ = some (.slice pA3 (el zFunc l j).code.length pc3) ∧ W.cell? ⟨(pa.add (j * 5)).block, (pa.add (j * 5)).off + 4, none⟩ = some (.slice pA4 (el zFunc l j).handlers.length pc4) ∧ W.cell? (qa.add (j * 5)) = some (.int .i64 (el zFunc m j).params) ∧ W.cell? ⟨(qa.add (j * 5)).block, (qa.add (j * 5)).off + 1, none⟩ = some (.int .i64 (el zFunc m j).regs) ∧ W.cell? ⟨(qa.add (j * 5)).block, (qa.add (j * 5)).off + 2, none⟩ = some (.slice qA2 (el zFunc m j).caps.length qc2) ∧ W.cell? ⟨(qa.add (j * 5)).block, (qa.add (j * 5)).off + 3, none⟩ = some (.slice qA3 (el zFunc m j).code.length qc3) ∧ W.cell? ⟨(qa.add (j * 5)).block, (qa.add (j * 5)).off + 4, none⟩ = some (.slice qA4 (el zFunc m j).handlers.length qc4)) := ⟨fun W hB => ⟨pw_cell_below hB px0, pw_cell_below hB px1, pw_cell_below hB px2, pw_cell_below hB px3, pw_cell_below hB px4, pw_cell_below hB qx0, pw_cell_below hB qx1, pw_cell_below hB qx2, pw_cell_below hB qx3, pw_cell_below hB qx4⟩⟩
          go_region_held3 (fun W => W.cell? (pa.add (j * 5)) = some (.int .i64 (el zFunc l j).params) ∧ W.cell? ⟨(pa.add (j * 5)).block, (pa.add (j * 5)).off + 1, none⟩ = some (.int .i64 (el zFunc l j).regs) ∧ W.cell? ⟨(pa.add (j * 5)).block, (pa.add (j * 5)).off + 2, none⟩ = some (.slice pA2 (el zFunc l j).caps.length pc2) ∧ W.cell? ⟨(pa.add (j * 5)).block, (pa.add (j * 5)).off + 3, none⟩ = some (.slice pA3 (el zFunc l j).code.length pc3) ∧ W.cell? ⟨(pa.add (j * 5)).block, (pa.add (j * 5)).off + 4, none⟩ = some (.slice pA4 (el zFunc l j).handlers.length pc4) ∧ W.cell? (qa.add (j * 5)) = some (.int .i64 (el zFunc m j).params) ∧ W.cell? ⟨(qa.add (j * 5)).block, (qa.add (j * 5)).off + 1, none⟩ = some (.int .i64 (el zFunc m j).regs) ∧ W.cell? ⟨(qa.add (j * 5)).block, (qa.add (j * 5)).off + 2, none⟩ = some (.slice qA2 (el zFunc m j).caps.length qc2) ∧ W.cell? ⟨(qa.add (j * 5)).block, (qa.add (j * 5)).off + 3, none⟩ = some (.slice qA3 (el zFunc m j).code.length qc3) ∧ W.cell? ⟨(qa.add (j * 5)).block, (qa.add (j * 5)).off + 4, none⟩ = some (.slice qA4 (el zFunc m j).handlers.length qc4)) (first | exact HS.out _ (below_step (below_drew1 (Below.refl _ _)) hb) | exact HS.out _ (below_drew1 (Below.refl _ _))) (first | (go_at_call 104; refine (eqFunc (el zFunc l j) (el zFunc m j) _ _ _ ?s1 ?s2).mono ?_; (case s1 => exact Kd.K_drew0 pK2.out); (case s2 => exact Kd.K_drew0 qK2.out); rintro e w1 ⟨rfl, hb⟩))
          go_wp2
          go_roundw
          case rel => exact ⟨j + 1, by go_num, by omega, ⟨fun i hi => by rcases Nat.lt_succ_iff_lt_or_eq.1 hi with h | h; exact HE.out i h; rw [h]; exact HE2.out⟩, ⟨below_step (below_drew1 HW.out) hb⟩⟩
          case measure => simp [intOf]; omega
        · have b2 : decide (el zFunc l j = el zFunc m j) = false := decide_eq_false he
          have HE2 := Aside0.mk he
          clear he
          go_wp2
          have HS : Aside0 (∀ W : World, Below wr.heap.size wr W → W.cell? (pa.add (j * 5)) = some (.int .i64 (el zFunc l j).params) ∧ W.cell? ⟨(pa.add (j * 5)).block, (pa.add (j * 5)).off + 1, none⟩ = some (.int .i64 (el zFunc l j).regs) ∧ W.cell? ⟨(pa.add (j * 5)).block, (pa.add (j * 5)).off + 2, none⟩ = some (.slice pA2 (el zFunc l j).caps.length pc2) ∧ W.cell? ⟨(pa.add (j * 5)).block, (pa.add (j * 5)).off + 3, none⟩ = some (.slice pA3 (el zFunc l j).code.length pc3) ∧ W.cell? ⟨(pa.add (j * 5)).block, (pa.add (j * 5)).off + 4, none⟩ = some (.slice pA4 (el zFunc l j).handlers.length pc4) ∧ W.cell? (qa.add (j * 5)) = some (.int .i64 (el zFunc m j).params) ∧ W.cell? ⟨(qa.add (j * 5)).block, (qa.add (j * 5)).off + 1, none⟩ = some (.int .i64 (el zFunc m j).regs) ∧ W.cell? ⟨(qa.add (j * 5)).block, (qa.add (j * 5)).off + 2, none⟩ = some (.slice qA2 (el zFunc m j).caps.length qc2) ∧ W.cell? ⟨(qa.add (j * 5)).block, (qa.add (j * 5)).off + 3, none⟩ = some (.slice qA3 (el zFunc m j).code.length qc3) ∧ W.cell? ⟨(qa.add (j * 5)).block, (qa.add (j * 5)).off + 4, none⟩ = some (.slice qA4 (el zFunc m j).handlers.length qc4)) := ⟨fun W hB => ⟨pw_cell_below hB px0, pw_cell_below hB px1, pw_cell_below hB px2, pw_cell_below hB px3, pw_cell_below hB px4, pw_cell_below hB qx0, pw_cell_below hB qx1, pw_cell_below hB qx2, pw_cell_below hB qx3, pw_cell_below hB qx4⟩⟩
          go_region_held3 (fun W => W.cell? (pa.add (j * 5)) = some (.int .i64 (el zFunc l j).params) ∧ W.cell? ⟨(pa.add (j * 5)).block, (pa.add (j * 5)).off + 1, none⟩ = some (.int .i64 (el zFunc l j).regs) ∧ W.cell? ⟨(pa.add (j * 5)).block, (pa.add (j * 5)).off + 2, none⟩ = some (.slice pA2 (el zFunc l j).caps.length pc2) ∧ W.cell? ⟨(pa.add (j * 5)).block, (pa.add (j * 5)).off + 3, none⟩ = some (.slice pA3 (el zFunc l j).code.length pc3) ∧ W.cell? ⟨(pa.add (j * 5)).block, (pa.add (j * 5)).off + 4, none⟩ = some (.slice pA4 (el zFunc l j).handlers.length pc4) ∧ W.cell? (qa.add (j * 5)) = some (.int .i64 (el zFunc m j).params) ∧ W.cell? ⟨(qa.add (j * 5)).block, (qa.add (j * 5)).off + 1, none⟩ = some (.int .i64 (el zFunc m j).regs) ∧ W.cell? ⟨(qa.add (j * 5)).block, (qa.add (j * 5)).off + 2, none⟩ = some (.slice qA2 (el zFunc m j).caps.length qc2) ∧ W.cell? ⟨(qa.add (j * 5)).block, (qa.add (j * 5)).off + 3, none⟩ = some (.slice qA3 (el zFunc m j).code.length qc3) ∧ W.cell? ⟨(qa.add (j * 5)).block, (qa.add (j * 5)).off + 4, none⟩ = some (.slice qA4 (el zFunc m j).handlers.length qc4)) (first | exact HS.out _ (below_step (below_drew1 (Below.refl _ _)) hb) | exact HS.out _ (below_drew1 (Below.refl _ _))) (first | (go_at_call 104; refine (eqFunc (el zFunc l j) (el zFunc m j) _ _ _ ?s1 ?s2).mono ?_; (case s1 => exact Kd.K_drew0 pK2.out); (case s2 => exact Kd.K_drew0 qK2.out); rintro e w1 ⟨rfl, hb⟩))
          go_wp2
          go_ret
          exact ⟨by rw [decide_eq_false (fun h => HE2.out (by rw [h]))]; rfl, below_step (below_drew1 HW.out) hb⟩
      · go_wp2
        go_ret
        exact ⟨by rw [decide_eq_true (el_ext zFunc HL.out (fun i hi => HE.out i (by omega)))]; rfl, HW.out⟩
  · have b1 : ((l.length : Int) != (m.length : Int)) = true := by simp; omega
    have HL := Aside0.mk hlen
    clear hr hr2 hlen
    go_enter Try.func62, Try.ntmps62
    go_wp2
    go_ret
    exact ⟨by rw [decide_eq_false (fun h => HL.out (by rw [h]))]; rfl, Below.refl _ _⟩
set_option maxHeartbeats 4000000 in
set_option maxRecDepth 100000 in
theorem eqImage (x y : Image) (cs ds : List Value) (w : World) (hk : kImageI.K w x cs) (hk2 : kImageI.K w y ds) :
    Calls Try.prog 19 #[.agg ⟨cs⟩, .agg ⟨ds⟩] w fun e w' => e = .returned (.bool (decide (x = y))) ∧ Below w.heap.size w w' := by
  obtain ⟨pA0, pc0, pA1, pc1, rfl, pl0, pg0, pl1, pg1⟩ := kImageI_open hk
  have pG0 := Aside0.mk pg0; have pL0 := Aside0.mk pl0; clear pg0 pl0
  have pG1 := Aside0.mk pg1; have pL1 := Aside0.mk pl1; clear pg1 pl1
  obtain ⟨qA0, qc0, qA1, qc1, rfl, ql0, qg0, ql1, qg1⟩ := kImageI_open hk2
  have qG0 := Aside0.mk qg0; have qL0 := Aside0.mk ql0; clear qg0 ql0
  have qG1 := Aside0.mk qg1; have qL1 := Aside0.mk ql1; clear qg1 ql1
  clear hk hk2
  have hu := Try.underlying37
  have A0 := Aside0.mk (((At.start w).alloc #[.slice pA0 x.funcs.length pc0, .slice pA1 x.consts.length pc1] 37).alloc #[.slice qA0 y.funcs.length qc0, .slice qA1 y.consts.length qc1] 37)
  rw [show (w.alloc (.cells #[.slice pA0 x.funcs.length pc0, .slice pA1 x.consts.length pc1] 37)).heap.size = w.heap.size + 1 by simp] at A0
  by_cases h0 : x.funcs = y.funcs
  · skip
    have d0 : decide (x.funcs = y.funcs) = true := decide_eq_true h0
    by_cases h1 : x.consts = y.consts
    · skip
      have d1 : decide (x.consts = y.consts) = true := decide_eq_true h1
      have hfin : decide (x = y) = true := decide_eq_true (by cases x; cases y; simp_all)
      have HF := Aside0.mk hfin
      clear hfin
      clear h0
      clear h1
      go_enter Try.func19, Try.ntmps19
      go_wp2_with fail
      refine (eqFuncS _ _ _ _ _ _ _ (A0.out.reads pG0.out) (A0.out.reads qG0.out)).mono ?_
      rintro e w1 ⟨rfl, hb0⟩
      have hb := hb0
      have A1 := Aside0.mk (A0.out.step hb)
      clear hb hb0 A0
      have z0 := A1.out.cell1; have z1 := A1.out.cell0
      go_wp2_with fail
      refine (eqConstS _ _ _ _ _ _ _ (A1.out.reads pG1.out) (A1.out.reads qG1.out)).mono ?_
      rintro e w2 ⟨rfl, hb0⟩
      have hb := hb0
      have A2 := Aside0.mk (A1.out.step hb)
      clear hb hb0 A1 z0 z1
      have z0 := A2.out.cell1; have z1 := A2.out.cell0
      go_wp2
      go_ret
      exact ⟨by rw [HF.out]; rfl, A2.out.below⟩
    · skip
      have d1 : decide (x.consts = y.consts) = false := decide_eq_false h1
      have hfin : decide (x = y) = false := decide_eq_false (fun e => h1 (by rw [e]))
      have HF := Aside0.mk hfin
      clear hfin
      clear h0
      clear h1
      go_enter Try.func19, Try.ntmps19
      go_wp2_with fail
      refine (eqFuncS _ _ _ _ _ _ _ (A0.out.reads pG0.out) (A0.out.reads qG0.out)).mono ?_
      rintro e w1 ⟨rfl, hb0⟩
      have hb := hb0
      have A1 := Aside0.mk (A0.out.step hb)
      clear hb hb0 A0
      have z0 := A1.out.cell1; have z1 := A1.out.cell0
      go_wp2_with fail
      refine (eqConstS _ _ _ _ _ _ _ (A1.out.reads pG1.out) (A1.out.reads qG1.out)).mono ?_
      rintro e w2 ⟨rfl, hb0⟩
      have hb := hb0
      have A2 := Aside0.mk (A1.out.step hb)
      clear hb hb0 A1 z0 z1
      have z0 := A2.out.cell1; have z1 := A2.out.cell0
      go_wp2
      go_ret
      exact ⟨by rw [HF.out]; rfl, A2.out.below⟩
  · skip
    have d0 : decide (x.funcs = y.funcs) = false := decide_eq_false h0
    have hfin : decide (x = y) = false := decide_eq_false (fun e => h0 (by rw [e]))
    have HF := Aside0.mk hfin
    clear hfin
    clear h0
    go_enter Try.func19, Try.ntmps19
    go_wp2_with fail
    refine (eqFuncS _ _ _ _ _ _ _ (A0.out.reads pG0.out) (A0.out.reads qG0.out)).mono ?_
    rintro e w1 ⟨rfl, hb0⟩
    have hb := hb0
    have A1 := Aside0.mk (A0.out.step hb)
    clear hb hb0 A0
    have z0 := A1.out.cell1; have z1 := A1.out.cell0
    go_wp2
    go_ret
    exact ⟨by rw [HF.out]; rfl, A1.out.below⟩
end Go.Proofs.Ytcbaokflimdjnaa
end
section
namespace Go.Proofs.Ytcbaokflimdjnaa
open Go.RowKit Go.Proofs.YtcbaokflimdjnaaW.PrintWords Go.Proofs.YtcbaokflimdjnaaW.PrintMore Go.Proofs.Ytcbaokflimdjnaa.Law Go.Proofs.Ytcbaokflimdjnaa.Num
set_option linter.unusedVariables false
set_option linter.unusedSimpArgs false
set_option autoImplicit false
theorem el_set_ne {α : Type} {z x : α} {l : List α} {i j : Nat} (h : i ≠ j) : el z (l.set j x) i = el z l i := by simp [el, List.getElem?_set, Ne.symm h]
theorem el_set_eq {α : Type} {z x : α} {l : List α} {j : Nat} (h : j < l.length) : el z (l.set j x) j = x := by simp [el, h]
set_option maxHeartbeats 4000000 in
set_option maxRecDepth 100000 in
theorem toCap (x : Cap) (cs : List Value) (w : World) (hk : kCap.K w x cs) :
    Calls Try.prog 162 #[.agg ⟨cs⟩] w fun e w' => e = .returned (.agg #[.bool x.reg, .int .i64 x.index]) ∧ Below w.heap.size w w' := by
  have e := kCap_open hk; subst e
  have hu := Try.underlying197; have hu2 := Try.underlying105
  have hz : (w.alloc (.cells ⟨[.bool x.reg, .int .i64 x.index]⟩ 197)).heap.size = w.heap.size + 1 := by simp
  go_enter Try.func162, Try.ntmps162
  go_wp2
  refine bodyPost_ret (results_cell_row rfl _ _ (w.heap.size + 1) 105 #[.bool x.reg, .int .i64 x.index] (0, 0) _ rfl (blk_alloc (hz ▸ blk_new _ _) _) hu2 rfl (by kernel_rfl)) rfl ?_
  exact ⟨rfl, below_alloc (below_alloc (below_alloc (Below.refl _ _) _) _) _⟩
set_option maxHeartbeats 4000000 in
set_option maxRecDepth 100000 in
theorem toCapS (A : Option Addr) (c : Nat) (l : List Cap) (w : World) (hr : kCap.C w A l.length l) (hlen : l.length ≤ 1048576) :
    Calls Try.prog 132 #[.slice A l.length c] w fun e w' => ∃ v, e = .returned v ∧ kCap.R 105 w' w.heap.size (fun _ => True) v l ∧ Below w.heap.size w w' := by
  have HR := Aside0.mk hr; clear hr
  have HB := Aside0.mk (Below.refl w.heap.size w)
  have hu := Try.underlying197; have hu2 := Try.underlying105
  go_enter Try.func132, Try.ntmps132
  go_wp2_with (refine Kd.R_make kCap _ 105 rfl (N := _) rfl _ _ _ rfl (l.length : Int) rfl rfl Try.underlying69 (.agg #[.bool false, .int .i64 0]) 16 (by kernel_rfl) rfl (by decide) (by omega) zCap (ok := fun _ => True) (okp := fun _ => True) (kCap_mkM _ _ _ zCap ) (fun _ hk => hk) trivial (by omega) (by omega) (Below.refl _ _) (Nat.le_refl _) ?_; intro v1 w1 ho hb hg_ hnew_; clear hg_ hnew_ HB; have HO := Aside0.mk ho; have HB := Aside0.mk hb; clear ho hb)
  go_loopw [4] (fun v wr => ∃ (j : Nat) (xs : List Cap), v = .int .i64 j ∧ j ≤ l.length ∧ xs.length = l.length ∧ Aside0 (∀ i : Nat, i < j → el zCap xs i = el zCap l i) ∧ Aside0 (kCap.R 105 wr w.heap.size (fun _ => True) v1 xs) ∧ Aside0 (Below w.heap.size w wr)) (fun v _ => l.length - (intOf v).toNat)
  case atStart => exact ⟨0, _, rfl, by omega, by simp, ⟨fun i hi => by omega⟩, HO, HB⟩
  case round =>
    clear HO HB
    obtain ⟨j, xs, rfl, hj, hn, HE, HO, HB⟩ := hrel
    by_cases hlt : j < l.length
    · obtain ⟨a, rfl, hk, x0, x1⟩ := Cap_at HR.out j hlt
      replace x0 := (HB.out.cell (World.block_lt_of_cell? w _ x0)).trans x0
      replace x1 := (HB.out.cell (World.block_lt_of_cell? w _ x1)).trans x1
      have HK := Aside0.mk hk; clear hk
      have hb2 : (j : Int) < (l.length : Int) := by omega
      go_wp2_with fail
      refine (toCap _ _ _ (kCap.K_below HB.out HK.out)).mono ?_
      rintro e w2 ⟨rfl, hb⟩
      have HO2 := Aside0.mk (Kd.R_below HO.out hb); have HB2 := Aside0.mk (below_step HB.out hb)
      obtain ⟨go, co, hv, gb, gl, cl0, HG0⟩ := Kd.R_form HO.out (by omega)
      rw [hn] at hv; subst hv; clear HG0
      obtain ⟨ce, hcl, hM, hcc, hfr⟩ := Kd.R_elem HO2.out zCap (j : Int) (by omega) (by omega)
      have hce := kCap_openM hM; subst hce
      rw [Int.toNat_natCast] at hcc hfr
      have y0 := hcc 0 _ rfl; replace y0 : w2.cell? ⟨go, j * 2, none⟩ = _ := y0; have f0 := hfr 0; replace f0 : w2.frozen? ⟨go, j * 2, none⟩ = false := f0
      have y1 := hcc 1 _ rfl; replace y1 : w2.cell? ⟨go, j * 2 + 1, none⟩ = _ := y1; have f1 := hfr 1; replace f1 : w2.frozen? ⟨go, j * 2 + 1, none⟩ = false := f1
      have HP := Aside0.mk (Kd.R_seg HO2.out (j : Int) (by omega) (by omega) (seg := [.bool (el zCap l j).reg, .int .i64 (el zCap l j).index]) (j := 0) hcl (by rw [Int.toNat_natCast]; exact hcc) (show 2 ≤ 2 from by decide) (x' := el zCap l j) (kCap_mkM _ _ _ _) (fun _ hk => hk)).1
      have GB := Aside0.mk gb
      clear gb gl hcl hcc hfr hM hb HO HB
      go_wp2
      go_roundw
      case measure => simp [intOf]; omega
      case rel => exact ⟨j + 1, _, by go_num, by omega, by simpa using hn, ⟨fun i hi => by rcases Nat.lt_succ_iff_lt_or_eq.1 hi with h | h; (rw [el_set_ne (by omega)]; exact HE.out i h); subst h; exact el_set_eq (by omega)⟩, HP, ⟨below_set (below_set (HB2.out) GB.out) GB.out⟩⟩
    · have hb2 : ¬ (j : Int) < (l.length : Int) := by omega
      have he : xs = l := el_ext zCap hn (fun i hi => HE.out i (by omega))
      subst he
      go_wp2
      go_ret
      exact ⟨_, rfl, HO.out, HB.out⟩
set_option maxHeartbeats 4000000 in
set_option maxRecDepth 100000 in
theorem toIns (x : Ins) (cs : List Value) (w : World) (hk : kIns.K w x cs) :
    Calls Try.prog 163 #[.agg ⟨cs⟩] w fun e w' => e = .returned (.agg #[.int .i64 x.op, .int .i64 x.a, .int .i64 x.b]) ∧ Below w.heap.size w w' := by
  have e := kIns_open hk; subst e
  have hu := Try.underlying199; have hu2 := Try.underlying76
  have hz : (w.alloc (.cells ⟨[.int .i64 x.op, .int .i64 x.a, .int .i64 x.b]⟩ 199)).heap.size = w.heap.size + 1 := by simp
  go_enter Try.func163, Try.ntmps163
  go_wp2
  refine bodyPost_ret (results_cell_row rfl _ _ (w.heap.size + 1) 76 #[.int .i64 x.op, .int .i64 x.a, .int .i64 x.b] (0, 0) _ rfl (blk_alloc (hz ▸ blk_new _ _) _) hu2 rfl (by kernel_rfl)) rfl ?_
  exact ⟨rfl, below_alloc (below_alloc (below_alloc (Below.refl _ _) _) _) _⟩
set_option maxHeartbeats 4000000 in
set_option maxRecDepth 100000 in
theorem toInsS (A : Option Addr) (c : Nat) (l : List Ins) (w : World) (hr : kIns.C w A l.length l) (hlen : l.length ≤ 1048576) :
    Calls Try.prog 133 #[.slice A l.length c] w fun e w' => ∃ v, e = .returned v ∧ kIns.R 76 w' w.heap.size (fun _ => True) v l ∧ Below w.heap.size w w' := by
  have HR := Aside0.mk hr; clear hr
  have HB := Aside0.mk (Below.refl w.heap.size w)
  have hu := Try.underlying199; have hu2 := Try.underlying76
  go_enter Try.func133, Try.ntmps133
  go_wp2_with (refine Kd.R_make kIns _ 76 rfl (N := _) rfl _ _ _ rfl (l.length : Int) rfl rfl Try.underlying70 (.agg #[.int .i64 0, .int .i64 0, .int .i64 0]) 24 (by kernel_rfl) rfl (by decide) (by omega) zIns (ok := fun _ => True) (okp := fun _ => True) (kIns_mkM _ _ _ zIns ) (fun _ hk => hk) trivial (by omega) (by omega) (Below.refl _ _) (Nat.le_refl _) ?_; intro v1 w1 ho hb hg_ hnew_; clear hg_ hnew_ HB; have HO := Aside0.mk ho; have HB := Aside0.mk hb; clear ho hb)
  go_loopw [4] (fun v wr => ∃ (j : Nat) (xs : List Ins), v = .int .i64 j ∧ j ≤ l.length ∧ xs.length = l.length ∧ Aside0 (∀ i : Nat, i < j → el zIns xs i = el zIns l i) ∧ Aside0 (kIns.R 76 wr w.heap.size (fun _ => True) v1 xs) ∧ Aside0 (Below w.heap.size w wr)) (fun v _ => l.length - (intOf v).toNat)
  case atStart => exact ⟨0, _, rfl, by omega, by simp, ⟨fun i hi => by omega⟩, HO, HB⟩
  case round =>
    clear HO HB
    obtain ⟨j, xs, rfl, hj, hn, HE, HO, HB⟩ := hrel
    by_cases hlt : j < l.length
    · obtain ⟨a, rfl, hk, x0, x1, x2⟩ := Ins_at HR.out j hlt
      replace x0 := (HB.out.cell (World.block_lt_of_cell? w _ x0)).trans x0
      replace x1 := (HB.out.cell (World.block_lt_of_cell? w _ x1)).trans x1
      replace x2 := (HB.out.cell (World.block_lt_of_cell? w _ x2)).trans x2
      have HK := Aside0.mk hk; clear hk
      have hb2 : (j : Int) < (l.length : Int) := by omega
      go_wp2_with fail
      refine (toIns _ _ _ (kIns.K_below HB.out HK.out)).mono ?_
      rintro e w2 ⟨rfl, hb⟩
      have HO2 := Aside0.mk (Kd.R_below HO.out hb); have HB2 := Aside0.mk (below_step HB.out hb)
      obtain ⟨go, co, hv, gb, gl, cl0, HG0⟩ := Kd.R_form HO.out (by omega)
      rw [hn] at hv; subst hv; clear HG0
      obtain ⟨ce, hcl, hM, hcc, hfr⟩ := Kd.R_elem HO2.out zIns (j : Int) (by omega) (by omega)
      have hce := kIns_openM hM; subst hce
      rw [Int.toNat_natCast] at hcc hfr
      have y0 := hcc 0 _ rfl; replace y0 : w2.cell? ⟨go, j * 3, none⟩ = _ := y0; have f0 := hfr 0; replace f0 : w2.frozen? ⟨go, j * 3, none⟩ = false := f0
      have y1 := hcc 1 _ rfl; replace y1 : w2.cell? ⟨go, j * 3 + 1, none⟩ = _ := y1; have f1 := hfr 1; replace f1 : w2.frozen? ⟨go, j * 3 + 1, none⟩ = false := f1
      have y2 := hcc 2 _ rfl; replace y2 : w2.cell? ⟨go, j * 3 + 2, none⟩ = _ := y2; have f2 := hfr 2; replace f2 : w2.frozen? ⟨go, j * 3 + 2, none⟩ = false := f2
      have HP := Aside0.mk (Kd.R_seg HO2.out (j : Int) (by omega) (by omega) (seg := [.int .i64 (el zIns l j).op, .int .i64 (el zIns l j).a, .int .i64 (el zIns l j).b]) (j := 0) hcl (by rw [Int.toNat_natCast]; exact hcc) (show 3 ≤ 3 from by decide) (x' := el zIns l j) (kIns_mkM _ _ _ _) (fun _ hk => hk)).1
      have GB := Aside0.mk gb
      clear gb gl hcl hcc hfr hM hb HO HB
      go_wp2
      go_roundw
      case measure => simp [intOf]; omega
      case rel => exact ⟨j + 1, _, by go_num, by omega, by simpa using hn, ⟨fun i hi => by rcases Nat.lt_succ_iff_lt_or_eq.1 hi with h | h; (rw [el_set_ne (by omega)]; exact HE.out i h); subst h; exact el_set_eq (by omega)⟩, HP, ⟨below_set (below_set (below_set (HB2.out) GB.out) GB.out) GB.out⟩⟩
    · have hb2 : ¬ (j : Int) < (l.length : Int) := by omega
      have he : xs = l := el_ext zIns hn (fun i hi => HE.out i (by omega))
      subst he
      go_wp2
      go_ret
      exact ⟨_, rfl, HO.out, HB.out⟩
set_option maxHeartbeats 4000000 in
set_option maxRecDepth 100000 in
theorem toHandler (x : Handler) (cs : List Value) (w : World) (hk : kHandler.K w x cs) :
    Calls Try.prog 164 #[.agg ⟨cs⟩] w fun e w' => e = .returned (.agg #[.int .i64 x.from_, .int .i64 x.to_, .int .i64 x.target]) ∧ Below w.heap.size w w' := by
  have e := kHandler_open hk; subst e
  have hu := Try.underlying201; have hu2 := Try.underlying107
  have hz : (w.alloc (.cells ⟨[.int .i64 x.from_, .int .i64 x.to_, .int .i64 x.target]⟩ 201)).heap.size = w.heap.size + 1 := by simp
  go_enter Try.func164, Try.ntmps164
  go_wp2
  refine bodyPost_ret (results_cell_row rfl _ _ (w.heap.size + 1) 107 #[.int .i64 x.from_, .int .i64 x.to_, .int .i64 x.target] (0, 0) _ rfl (blk_alloc (hz ▸ blk_new _ _) _) hu2 rfl (by kernel_rfl)) rfl ?_
  exact ⟨rfl, below_alloc (below_alloc (below_alloc (Below.refl _ _) _) _) _⟩
set_option maxHeartbeats 4000000 in
set_option maxRecDepth 100000 in
theorem toHandlerS (A : Option Addr) (c : Nat) (l : List Handler) (w : World) (hr : kHandler.C w A l.length l) (hlen : l.length ≤ 1048576) :
    Calls Try.prog 134 #[.slice A l.length c] w fun e w' => ∃ v, e = .returned v ∧ kHandler.R 107 w' w.heap.size (fun _ => True) v l ∧ Below w.heap.size w w' := by
  have HR := Aside0.mk hr; clear hr
  have HB := Aside0.mk (Below.refl w.heap.size w)
  have hu := Try.underlying201; have hu2 := Try.underlying107
  go_enter Try.func134, Try.ntmps134
  go_wp2_with (refine Kd.R_make kHandler _ 107 rfl (N := _) rfl _ _ _ rfl (l.length : Int) rfl rfl Try.underlying71 (.agg #[.int .i64 0, .int .i64 0, .int .i64 0]) 24 (by kernel_rfl) rfl (by decide) (by omega) zHandler (ok := fun _ => True) (okp := fun _ => True) (kHandler_mkM _ _ _ zHandler ) (fun _ hk => hk) trivial (by omega) (by omega) (Below.refl _ _) (Nat.le_refl _) ?_; intro v1 w1 ho hb hg_ hnew_; clear hg_ hnew_ HB; have HO := Aside0.mk ho; have HB := Aside0.mk hb; clear ho hb)
  go_loopw [4] (fun v wr => ∃ (j : Nat) (xs : List Handler), v = .int .i64 j ∧ j ≤ l.length ∧ xs.length = l.length ∧ Aside0 (∀ i : Nat, i < j → el zHandler xs i = el zHandler l i) ∧ Aside0 (kHandler.R 107 wr w.heap.size (fun _ => True) v1 xs) ∧ Aside0 (Below w.heap.size w wr)) (fun v _ => l.length - (intOf v).toNat)
  case atStart => exact ⟨0, _, rfl, by omega, by simp, ⟨fun i hi => by omega⟩, HO, HB⟩
  case round =>
    clear HO HB
    obtain ⟨j, xs, rfl, hj, hn, HE, HO, HB⟩ := hrel
    by_cases hlt : j < l.length
    · obtain ⟨a, rfl, hk, x0, x1, x2⟩ := Handler_at HR.out j hlt
      replace x0 := (HB.out.cell (World.block_lt_of_cell? w _ x0)).trans x0
      replace x1 := (HB.out.cell (World.block_lt_of_cell? w _ x1)).trans x1
      replace x2 := (HB.out.cell (World.block_lt_of_cell? w _ x2)).trans x2
      have HK := Aside0.mk hk; clear hk
      have hb2 : (j : Int) < (l.length : Int) := by omega
      go_wp2_with fail
      refine (toHandler _ _ _ (kHandler.K_below HB.out HK.out)).mono ?_
      rintro e w2 ⟨rfl, hb⟩
      have HO2 := Aside0.mk (Kd.R_below HO.out hb); have HB2 := Aside0.mk (below_step HB.out hb)
      obtain ⟨go, co, hv, gb, gl, cl0, HG0⟩ := Kd.R_form HO.out (by omega)
      rw [hn] at hv; subst hv; clear HG0
      obtain ⟨ce, hcl, hM, hcc, hfr⟩ := Kd.R_elem HO2.out zHandler (j : Int) (by omega) (by omega)
      have hce := kHandler_openM hM; subst hce
      rw [Int.toNat_natCast] at hcc hfr
      have y0 := hcc 0 _ rfl; replace y0 : w2.cell? ⟨go, j * 3, none⟩ = _ := y0; have f0 := hfr 0; replace f0 : w2.frozen? ⟨go, j * 3, none⟩ = false := f0
      have y1 := hcc 1 _ rfl; replace y1 : w2.cell? ⟨go, j * 3 + 1, none⟩ = _ := y1; have f1 := hfr 1; replace f1 : w2.frozen? ⟨go, j * 3 + 1, none⟩ = false := f1
      have y2 := hcc 2 _ rfl; replace y2 : w2.cell? ⟨go, j * 3 + 2, none⟩ = _ := y2; have f2 := hfr 2; replace f2 : w2.frozen? ⟨go, j * 3 + 2, none⟩ = false := f2
      have HP := Aside0.mk (Kd.R_seg HO2.out (j : Int) (by omega) (by omega) (seg := [.int .i64 (el zHandler l j).from_, .int .i64 (el zHandler l j).to_, .int .i64 (el zHandler l j).target]) (j := 0) hcl (by rw [Int.toNat_natCast]; exact hcc) (show 3 ≤ 3 from by decide) (x' := el zHandler l j) (kHandler_mkM _ _ _ _) (fun _ hk => hk)).1
      have GB := Aside0.mk gb
      clear gb gl hcl hcc hfr hM hb HO HB
      go_wp2
      go_roundw
      case measure => simp [intOf]; omega
      case rel => exact ⟨j + 1, _, by go_num, by omega, by simpa using hn, ⟨fun i hi => by rcases Nat.lt_succ_iff_lt_or_eq.1 hi with h | h; (rw [el_set_ne (by omega)]; exact HE.out i h); subst h; exact el_set_eq (by omega)⟩, HP, ⟨below_set (below_set (below_set (HB2.out) GB.out) GB.out) GB.out⟩⟩
    · have hb2 : ¬ (j : Int) < (l.length : Int) := by omega
      have he : xs = l := el_ext zHandler hn (fun i hi => HE.out i (by omega))
      subst he
      go_wp2
      go_ret
      exact ⟨_, rfl, HO.out, HB.out⟩
set_option maxHeartbeats 4000000 in
set_option maxRecDepth 100000 in
theorem toConst (x : Const) (cs : List Value) (w : World) (hk : kConst.K w x cs) :
    Calls Try.prog 98 #[.agg ⟨cs⟩] w fun e w' => e = .returned (.agg #[.int .i64 x.kind, .int .u64 x.num, .string x.text]) ∧ Below w.heap.size w w' := by
  have e := kConst_open hk; subst e
  have hu := Try.underlying131; have hu2 := Try.underlying100
  have hz : (w.alloc (.cells ⟨[.int .i64 x.kind, .int .u64 x.num, .string x.text]⟩ 131)).heap.size = w.heap.size + 1 := by simp
  go_enter Try.func98, Try.ntmps98
  go_wp2
  refine bodyPost_ret (results_cell_row rfl _ _ (w.heap.size + 1) 100 #[.int .i64 x.kind, .int .u64 x.num, .string x.text] (0, 0) _ rfl (blk_alloc (hz ▸ blk_new _ _) _) hu2 rfl (by kernel_rfl)) rfl ?_
  exact ⟨rfl, below_alloc (below_alloc (below_alloc (Below.refl _ _) _) _) _⟩
set_option maxHeartbeats 4000000 in
set_option maxRecDepth 100000 in
theorem toConstS (A : Option Addr) (c : Nat) (l : List Const) (w : World) (hr : kConst.C w A l.length l) (hlen : l.length ≤ 1048576) :
    Calls Try.prog 57 #[.slice A l.length c] w fun e w' => ∃ v, e = .returned v ∧ kConst.R 100 w' w.heap.size (fun _ => True) v l ∧ Below w.heap.size w w' := by
  have HR := Aside0.mk hr; clear hr
  have HB := Aside0.mk (Below.refl w.heap.size w)
  have hu := Try.underlying131; have hu2 := Try.underlying100
  go_enter Try.func57, Try.ntmps57
  go_wp2_with (refine Kd.R_make kConst _ 100 rfl (N := _) rfl _ _ _ rfl (l.length : Int) rfl rfl Try.underlying35 (.agg #[.int .i64 0, .int .u64 0, .string (⟨#[]⟩ : ByteArray)]) 32 (by kernel_rfl) rfl (by decide) (by omega) zConst (ok := fun _ => True) (okp := fun _ => True) (kConst_mkM _ _ _ zConst ) (fun _ hk => hk) trivial (by omega) (by omega) (Below.refl _ _) (Nat.le_refl _) ?_; intro v1 w1 ho hb hg_ hnew_; clear hg_ hnew_ HB; have HO := Aside0.mk ho; have HB := Aside0.mk hb; clear ho hb)
  go_loopw [4] (fun v wr => ∃ (j : Nat) (xs : List Const), v = .int .i64 j ∧ j ≤ l.length ∧ xs.length = l.length ∧ Aside0 (∀ i : Nat, i < j → el zConst xs i = el zConst l i) ∧ Aside0 (kConst.R 100 wr w.heap.size (fun _ => True) v1 xs) ∧ Aside0 (Below w.heap.size w wr)) (fun v _ => l.length - (intOf v).toNat)
  case atStart => exact ⟨0, _, rfl, by omega, by simp, ⟨fun i hi => by omega⟩, HO, HB⟩
  case round =>
    clear HO HB
    obtain ⟨j, xs, rfl, hj, hn, HE, HO, HB⟩ := hrel
    by_cases hlt : j < l.length
    · obtain ⟨a, rfl, hk, x0, x1, x2⟩ := Const_at HR.out j hlt
      replace x0 := (HB.out.cell (World.block_lt_of_cell? w _ x0)).trans x0
      replace x1 := (HB.out.cell (World.block_lt_of_cell? w _ x1)).trans x1
      replace x2 := (HB.out.cell (World.block_lt_of_cell? w _ x2)).trans x2
      have HK := Aside0.mk hk; clear hk
      have hb2 : (j : Int) < (l.length : Int) := by omega
      go_wp2_with fail
      refine (toConst _ _ _ (kConst.K_below HB.out HK.out)).mono ?_
      rintro e w2 ⟨rfl, hb⟩
      have HO2 := Aside0.mk (Kd.R_below HO.out hb); have HB2 := Aside0.mk (below_step HB.out hb)
      obtain ⟨go, co, hv, gb, gl, cl0, HG0⟩ := Kd.R_form HO.out (by omega)
      rw [hn] at hv; subst hv; clear HG0
      obtain ⟨ce, hcl, hM, hcc, hfr⟩ := Kd.R_elem HO2.out zConst (j : Int) (by omega) (by omega)
      have hce := kConst_openM hM; subst hce
      rw [Int.toNat_natCast] at hcc hfr
      have y0 := hcc 0 _ rfl; replace y0 : w2.cell? ⟨go, j * 3, none⟩ = _ := y0; have f0 := hfr 0; replace f0 : w2.frozen? ⟨go, j * 3, none⟩ = false := f0
      have y1 := hcc 1 _ rfl; replace y1 : w2.cell? ⟨go, j * 3 + 1, none⟩ = _ := y1; have f1 := hfr 1; replace f1 : w2.frozen? ⟨go, j * 3 + 1, none⟩ = false := f1
      have y2 := hcc 2 _ rfl; replace y2 : w2.cell? ⟨go, j * 3 + 2, none⟩ = _ := y2; have f2 := hfr 2; replace f2 : w2.frozen? ⟨go, j * 3 + 2, none⟩ = false := f2
      have HP := Aside0.mk (Kd.R_seg HO2.out (j : Int) (by omega) (by omega) (seg := [.int .i64 (el zConst l j).kind, .int .u64 (el zConst l j).num, .string (el zConst l j).text]) (j := 0) hcl (by rw [Int.toNat_natCast]; exact hcc) (show 3 ≤ 3 from by decide) (x' := el zConst l j) (kConst_mkM _ _ _ _) (fun _ hk => hk)).1
      have GB := Aside0.mk gb
      clear gb gl hcl hcc hfr hM hb HO HB
      go_wp2
      go_roundw
      case measure => simp [intOf]; omega
      case rel => exact ⟨j + 1, _, by go_num, by omega, by simpa using hn, ⟨fun i hi => by rcases Nat.lt_succ_iff_lt_or_eq.1 hi with h | h; (rw [el_set_ne (by omega)]; exact HE.out i h); subst h; exact el_set_eq (by omega)⟩, HP, ⟨below_set (below_set (below_set (HB2.out) GB.out) GB.out) GB.out⟩⟩
    · have hb2 : ¬ (j : Int) < (l.length : Int) := by omega
      have he : xs = l := el_ext zConst hn (fun i hi => HE.out i (by omega))
      subst he
      go_wp2
      go_ret
      exact ⟨_, rfl, HO.out, HB.out⟩
def LenFunc (x : Func) : Prop := x.caps.length ≤ 1048576 ∧ x.code.length ≤ 1048576 ∧ x.handlers.length ≤ 1048576
set_option maxHeartbeats 4000000 in
set_option maxRecDepth 100000 in
theorem toFunc (x : Func) (cs : List Value) (w : World) (hk : kFuncL.K w x cs) (hl : LenFunc x) :
    Calls Try.prog 97 #[.agg ⟨cs⟩] w fun e w' => ∃ ds, e = .returned (.agg ⟨ds⟩) ∧ kFuncI.M w' w.heap.size (fun _ => True) x ds ∧ Below w.heap.size w w' := by
  obtain ⟨pA2, pc2, pA3, pc3, pA4, pc4, rfl, pl2, pg2, pl3, pg3, pl4, pg4⟩ := kFuncL_open hk
  have pG2 := Aside0.mk pg2; clear pg2 pl2
  have pG3 := Aside0.mk pg3; clear pg3 pl3
  have pG4 := Aside0.mk pg4; clear pg4 pl4
  clear hk; unfold LenFunc at hl
  have HL := Aside0.mk hl; clear hl
  have hu := Try.underlying129; have hu2 := Try.underlying73
  have M0 := Aside0.mk ((((Mem.start w).allocAt rfl #[.int .i64 x.params, .int .i64 x.regs, .slice pA2 x.caps.length pc2, .slice pA3 x.code.length pc3, .slice pA4 x.handlers.length pc4] 129).allocAt (g := (w.heap.size + 1)) (by simp) #[.int .i64 0, .int .i64 0, .slice none 0 0, .slice none 0 0, .slice none 0 0] 73).allocAt (g := (w.heap.size + 1 + 1)) (by simp) #[.int .i64 x.params, .int .i64 x.regs, .slice none 0 0, .slice none 0 0, .slice none 0 0] 73)
  go_enter Try.func97, Try.ntmps97
  go_wp2_with fail
  refine (toCapS _ _ x.caps _ (Kd.C_below pG2.out M0.out.below) HL.out.1).mono ?_
  rintro e w2 ⟨v, rfl, ho, hb⟩; obtain ⟨vA2, vc2, rfl⟩ := Kd.R_slice ho
  have N2 := Aside0.mk (M0.out.pushR hb ho); clear ho hb M0
  have M3 := Aside0.mk (Mem.set (A := [_]) N2.out 2 (.slice vA2 x.caps.length vc2) (cs' := #[.int .i64 x.params, .int .i64 x.regs, .slice vA2 x.caps.length vc2, .slice none 0 0, .slice none 0 0]) rfl)
  have za := N2.out.box (.tail _ (.tail _ (.tail _ (.head _)))); have zo := N2.out.box (.tail _ (.head _)); have fo := N2.out.free (.tail _ (.head _)); have zr := N2.out.box (.tail _ (.tail _ (.head _))); have fr := N2.out.free (.tail _ (.tail _ (.head _)))
  go_wp2_with fail
  clear za zo fo zr fr N2
  refine (toInsS _ _ x.code _ (Kd.C_below pG3.out M3.out.below) HL.out.2.1).mono ?_
  rintro e w3 ⟨v, rfl, ho, hb⟩; obtain ⟨vA3, vc3, rfl⟩ := Kd.R_slice ho
  have N3 := Aside0.mk (M3.out.pushR hb ho); clear ho hb M3
  have M4 := Aside0.mk (Mem.set (A := [_, _]) N3.out 3 (.slice vA3 x.code.length vc3) (cs' := #[.int .i64 x.params, .int .i64 x.regs, .slice vA2 x.caps.length vc2, .slice vA3 x.code.length vc3, .slice none 0 0]) rfl)
  have za := N3.out.box (.tail _ (.tail _ (.tail _ (.tail _ (.head _))))); have zo := N3.out.box (.tail _ (.tail _ (.head _))); have fo := N3.out.free (.tail _ (.tail _ (.head _))); have zr := N3.out.box (.tail _ (.tail _ (.tail _ (.head _)))); have fr := N3.out.free (.tail _ (.tail _ (.tail _ (.head _))))
  go_wp2_with fail
  clear za zo fo zr fr N3
  refine (toHandlerS _ _ x.handlers _ (Kd.C_below pG4.out M4.out.below) HL.out.2.2).mono ?_
  rintro e w4 ⟨v, rfl, ho, hb⟩; obtain ⟨vA4, vc4, rfl⟩ := Kd.R_slice ho
  have N4 := Aside0.mk (M4.out.pushR hb ho); clear ho hb M4
  have M5 := Aside0.mk (Mem.set (A := [_, _, _]) N4.out 4 (.slice vA4 x.handlers.length vc4) (cs' := #[.int .i64 x.params, .int .i64 x.regs, .slice vA2 x.caps.length vc2, .slice vA3 x.code.length vc3, .slice vA4 x.handlers.length vc4]) rfl)
  have za := N4.out.box (.tail _ (.tail _ (.tail _ (.tail _ (.tail _ (.head _)))))); have zo := N4.out.box (.tail _ (.tail _ (.tail _ (.head _)))); have fo := N4.out.free (.tail _ (.tail _ (.tail _ (.head _)))); have zr := N4.out.box (.tail _ (.tail _ (.tail _ (.tail _ (.head _))))); have fr := N4.out.free (.tail _ (.tail _ (.tail _ (.tail _ (.head _)))))
  go_wp2
  have Z0 := Aside0.mk (Mem.set (A := [_, _, _, _]) M5.out 0 (.int .i64 x.params) (cs' := #[.int .i64 x.params, .int .i64 0, .slice none 0 0, .slice none 0 0, .slice none 0 0]) rfl); clear M5
  have Z1 := Aside0.mk (Mem.set (A := [_, _, _, _]) Z0.out 1 (.int .i64 x.regs) (cs' := #[.int .i64 x.params, .int .i64 x.regs, .slice none 0 0, .slice none 0 0, .slice none 0 0]) rfl); clear Z0
  have Z2 := Aside0.mk (Mem.set (A := [_, _, _, _]) Z1.out 2 (.slice vA2 x.caps.length vc2) (cs' := #[.int .i64 x.params, .int .i64 x.regs, .slice vA2 x.caps.length vc2, .slice none 0 0, .slice none 0 0]) rfl); clear Z1
  have Z3 := Aside0.mk (Mem.set (A := [_, _, _, _]) Z2.out 3 (.slice vA3 x.code.length vc3) (cs' := #[.int .i64 x.params, .int .i64 x.regs, .slice vA2 x.caps.length vc2, .slice vA3 x.code.length vc3, .slice none 0 0]) rfl); clear Z2
  have Z4 := Aside0.mk (Mem.set (A := [_, _, _, _]) Z3.out 4 (.slice vA4 x.handlers.length vc4) (cs' := #[.int .i64 x.params, .int .i64 x.regs, .slice vA2 x.caps.length vc2, .slice vA3 x.code.length vc3, .slice vA4 x.handlers.length vc4]) rfl); clear Z3
  refine bodyPost_ret (results_cell_row rfl _ _ (w.heap.size + 1) 73 #[.int .i64 x.params, .int .i64 x.regs, .slice vA2 x.caps.length vc2, .slice vA3 x.code.length vc3, .slice vA4 x.handlers.length vc4] (0, 0) _ rfl (Z4.out.blk (.tail _ (.tail _ (.tail _ (.tail _ (.head _)))))) hu2 rfl (by kernel_rfl)) rfl ?_
  exact ⟨_, rfl, kFuncI_mkM _ _ _ x (Z4.out.rowT (.tail _ (.tail _ (.head _)))) (Z4.out.rowT (.tail _ (.head _))) (Z4.out.rowT (.head _)), Z4.out.below⟩
def LenImage (x : Image) : Prop := x.funcs.length ≤ 1048576 ∧ (∀ y ∈ x.funcs, LenFunc y) ∧ x.consts.length ≤ 1048576
end Go.Proofs.Ytcbaokflimdjnaa
end
section
namespace Go.Proofs.Ytcbaokflimdjnaa
open Go.RowKit Go.Proofs.YtcbaokflimdjnaaW.PrintWords Go.Proofs.YtcbaokflimdjnaaW.PrintMore Go.Proofs.Ytcbaokflimdjnaa.Law Go.Proofs.Ytcbaokflimdjnaa.Num
set_option linter.unusedVariables false
set_option linter.unusedSimpArgs false
set_option autoImplicit false
set_option maxHeartbeats 4000000 in
set_option maxRecDepth 100000 in
theorem toFuncSA (A : Option Addr) (c : Nat) (l : List Func) (w : World) (hr : kFuncL.C w A l.length l) (hlen : l.length ≤ 1048576) (hl : ∀ y ∈ l, LenFunc y) :
    Calls Try.prog 56 #[.slice A l.length c] w fun e w' => ∃ v, e = .returned v ∧ Kd.S kFuncI 73 w' w.heap.size (fun _ => True) v l ∧ Below w.heap.size w w' := by
  have HR := Aside0.mk hr; clear hr
  have HL := Aside0.mk hl; clear hl
  have HB := Aside0.mk (Below.refl w.heap.size w)
  have hu := Try.underlying129; have hu2 := Try.underlying73
  go_enter Try.func56, Try.ntmps56
  go_wp2_with (refine Kd.S_make kFuncI _ 73 rfl (N := _) rfl _ _ _ rfl (l.length : Int) rfl rfl Try.underlying34 (.agg #[.int .i64 0, .int .i64 0, .slice none 0 0, .slice none 0 0, .slice none 0 0]) 88 (by kernel_rfl) rfl (by decide) (by omega) zFunc (ok := fun _ => True) (okp := fun _ => True) (kFuncI_mkM _ _ _ zFunc (Kd.R_nil _ _ _ _ _) (Kd.R_nil _ _ _ _ _) (Kd.R_nil _ _ _ _ _)) (fun _ hk => hk) trivial (by omega) (by omega) (Below.refl _ _) (Nat.le_refl _) ?_; intro v1 w1 ho hb hg_ hnew_; clear hg_ hnew_ HB; have HO := Aside0.mk ho; have HB := Aside0.mk hb; clear ho hb)
  go_loopw [4] (fun v wr => ∃ (j : Nat) (xs : List Func), v = .int .i64 j ∧ j ≤ l.length ∧ xs.length = l.length ∧ Aside0 (∀ i : Nat, i < j → el zFunc xs i = el zFunc l i) ∧ Aside0 (Kd.S kFuncI 73 wr w.heap.size (fun _ => True) v1 xs) ∧ Aside0 (Below w.heap.size w wr)) (fun v _ => l.length - (intOf v).toNat)
  case atStart => exact ⟨0, _, rfl, by omega, by simp, ⟨fun i hi => by omega⟩, HO, HB⟩
  case round =>
    clear HO HB
    obtain ⟨j, xs, rfl, hj, hn, HE, HO, HB⟩ := hrel
    by_cases hlt : j < l.length
    · obtain ⟨a, qA2, qc2, qA3, qc3, qA4, qc4, rfl, hk, x0, x1, x2, x3, x4⟩ := FuncL_at HR.out j hlt
      replace x0 := (HB.out.cell (World.block_lt_of_cell? w _ x0)).trans x0
      replace x1 := (HB.out.cell (World.block_lt_of_cell? w _ x1)).trans x1
      replace x2 := (HB.out.cell (World.block_lt_of_cell? w _ x2)).trans x2
      replace x3 := (HB.out.cell (World.block_lt_of_cell? w _ x3)).trans x3
      replace x4 := (HB.out.cell (World.block_lt_of_cell? w _ x4)).trans x4
      have HK := Aside0.mk hk; clear hk
      have hb2 : (j : Int) < (l.length : Int) := by omega
      go_wp2_with fail
      refine (toFunc _ _ _ (kFuncL.K_below HB.out HK.out) (HL.out _ (el_mem zFunc hlt))).mono ?_
      rintro e w2 ⟨ds, rfl, hm, hb⟩
      have hbx := hb; have HO2 := Aside0.mk (Kd.S_below (Kd.S_mono (ok' := fun k => True ∧ ¬ wr.heap.size ≤ k) (Kd.S_bound HO.out) (fun k hk => ⟨trivial, by have := hk.2.2.1; omega⟩)) hb); have HB2 := Aside0.mk (below_step HB.out hb)
      obtain ⟨go, co, hv, gb, gl, HG0⟩ := Kd.S_form HO.out (by omega)
      rw [hn] at hv; subst hv; clear HG0
      obtain ⟨oki, ce, hcl, hM, hcc, hfr, hoki, hH⟩ := Kd.S_elem HO2.out zFunc (j : Int) (by omega) (by omega)
      obtain ⟨u2, u3, u4, rfl, _, _, _⟩ := kFuncI_openM hM
      obtain ⟨t2, t3, t4, rfl, r2, r3, r4⟩ := kFuncI_openM hm
      obtain ⟨tA2, tc2, rfl⟩ := Kd.R_slice r2
      obtain ⟨tA3, tc3, rfl⟩ := Kd.R_slice r3
      obtain ⟨tA4, tc4, rfl⟩ := Kd.R_slice r4
      clear r2 r3 r4
      rw [Int.toNat_natCast] at hcc hfr
      have y0 := hcc 0 _ rfl; replace y0 : w2.cell? ⟨go, j * 5, none⟩ = _ := y0; have f0 := hfr 0; replace f0 : w2.frozen? ⟨go, j * 5, none⟩ = false := f0
      have y1 := hcc 1 _ rfl; replace y1 : w2.cell? ⟨go, j * 5 + 1, none⟩ = _ := y1; have f1 := hfr 1; replace f1 : w2.frozen? ⟨go, j * 5 + 1, none⟩ = false := f1
      have y2 := hcc 2 _ rfl; replace y2 : w2.cell? ⟨go, j * 5 + 2, none⟩ = _ := y2; have f2 := hfr 2; replace f2 : w2.frozen? ⟨go, j * 5 + 2, none⟩ = false := f2
      have y3 := hcc 3 _ rfl; replace y3 : w2.cell? ⟨go, j * 5 + 3, none⟩ = _ := y3; have f3 := hfr 3; replace f3 : w2.frozen? ⟨go, j * 5 + 3, none⟩ = false := f3
      have y4 := hcc 4 _ rfl; replace y4 : w2.cell? ⟨go, j * 5 + 4, none⟩ = _ := y4; have f4 := hfr 4; replace f4 : w2.frozen? ⟨go, j * 5 + 4, none⟩ = false := f4
      have kk := kFuncI.M_lower (base' := w.heap.size) HB.out.size (kFuncI.M_bound hm)
      have HP := Aside0.mk (Kd.S_seg (okg := fun k => wr.heap.size ≤ k) hH (by omega) (by omega) (seg := [.int .i64 (el zFunc l j).params, .int .i64 (el zFunc l j).regs, .slice tA2 (el zFunc l j).caps.length tc2, .slice tA3 (el zFunc l j).code.length tc3, .slice tA4 (el zFunc l j).handlers.length tc4]) (j := 0) (show 5 ≤ 5 from by decide) (x' := el zFunc l j) kk (fun k hk => .inr hk.2.1) (fun k hk => ⟨trivial, by have : wr.heap.size ≤ k := hk; omega⟩)).1
      clear kk hm
      have GB := Aside0.mk gb
      clear gb gl hcl hcc hfr hM hb hbx hoki hH HO HB HO2
      go_wp2
      go_roundw
      case measure => simp [intOf]; omega
      case rel => exact ⟨j + 1, _, by go_num, by omega, by simpa using hn, ⟨fun i hi => by rcases Nat.lt_succ_iff_lt_or_eq.1 hi with h | h; (rw [el_set_ne (by omega)]; exact HE.out i h); subst h; exact el_set_eq (by omega)⟩, HP, ⟨below_set (below_set (below_set (below_set (below_set (HB2.out) GB.out) GB.out) GB.out) GB.out) GB.out⟩⟩
    · have hb2 : ¬ (j : Int) < (l.length : Int) := by omega
      have he : xs = l := el_ext zFunc hn (fun i hi => HE.out i (by omega))
      subst he
      go_wp2
      go_ret
      exact ⟨_, rfl, HO.out, HB.out⟩
theorem rowA {w : World} {lo lo' : Nat} {ok : Nat → Prop} {x : List Func} {v : Value} (h : (sliceS 73 kFuncI).M w lo ok x [v]) (hl : lo' ≤ lo) : Kd.S kFuncI 73 w lo' (fun _ => True) v x := by
  obtain ⟨u, e, hs⟩ := h
  cases e
  exact Kd.S_mono (Kd.S_lower hs hl) (fun _ _ => trivial)
set_option maxHeartbeats 4000000 in
set_option maxRecDepth 100000 in
theorem toImageA (x : Image) (cs : List Value) (w : World) (hk : kImageL.K w x cs) (hl : LenImage x) :
    Calls Try.prog 15 #[.agg ⟨cs⟩] w fun e w' => ∃ ds, e = .returned (.agg ⟨ds⟩) ∧ kImageA.M w' w.heap.size (fun _ => True) x ds ∧ Below w.heap.size w w' := by
  obtain ⟨pA0, pc0, pA1, pc1, rfl, pl0, pg0, pl1, pg1⟩ := kImageL_open hk
  have pG0 := Aside0.mk pg0; clear pg0 pl0
  have pG1 := Aside0.mk pg1; clear pg1 pl1
  clear hk; unfold LenImage at hl
  have HL := Aside0.mk hl; clear hl
  have hu := Try.underlying25; have hu2 := Try.underlying37
  have M0 := Aside0.mk ((((Mem.start w).allocAt rfl #[.slice pA0 x.funcs.length pc0, .slice pA1 x.consts.length pc1] 25).allocAt (g := (w.heap.size + 1)) (by simp) #[.slice none 0 0, .slice none 0 0] 37).allocAt (g := (w.heap.size + 1 + 1)) (by simp) #[.slice none 0 0, .slice none 0 0] 37)
  go_enter Try.func15, Try.ntmps15
  go_wp2_with fail
  refine (toFuncSA _ _ x.funcs _ (Kd.C_below pG0.out M0.out.below) HL.out.1 HL.out.2.1).mono ?_
  rintro e w0 ⟨v, rfl, ho, hb⟩; obtain ⟨vA0, vc0, rfl⟩ := Kd.S_slice ho
  have N0 := Aside0.mk (M0.out.push (d := sliceS 73 kFuncI) hb ⟨_, rfl, ho⟩); clear ho hb M0
  have M1 := Aside0.mk (Mem.set (A := [_]) N0.out 0 (.slice vA0 x.funcs.length vc0) (cs' := #[.slice vA0 x.funcs.length vc0, .slice none 0 0]) rfl)
  have za := N0.out.box (.tail _ (.tail _ (.tail _ (.head _)))); have zo := N0.out.box (.tail _ (.head _)); have fo := N0.out.free (.tail _ (.head _)); have zr := N0.out.box (.tail _ (.tail _ (.head _))); have fr := N0.out.free (.tail _ (.tail _ (.head _)))
  go_wp2_with fail
  clear za zo fo zr fr N0
  refine (toConstS _ _ x.consts _ (Kd.C_below pG1.out M1.out.below) HL.out.2.2).mono ?_
  rintro e w1 ⟨v, rfl, ho, hb⟩; obtain ⟨vA1, vc1, rfl⟩ := Kd.R_slice ho
  have N1 := Aside0.mk (M1.out.pushR hb ho); clear ho hb M1
  have M2 := Aside0.mk (Mem.set (A := [_, _]) N1.out 1 (.slice vA1 x.consts.length vc1) (cs' := #[.slice vA0 x.funcs.length vc0, .slice vA1 x.consts.length vc1]) rfl)
  have za := N1.out.box (.tail _ (.tail _ (.tail _ (.tail _ (.head _))))); have zo := N1.out.box (.tail _ (.tail _ (.head _))); have fo := N1.out.free (.tail _ (.tail _ (.head _))); have zr := N1.out.box (.tail _ (.tail _ (.tail _ (.head _)))); have fr := N1.out.free (.tail _ (.tail _ (.tail _ (.head _))))
  go_wp2
  have Z0 := Aside0.mk (Mem.set (A := [_, _, _]) M2.out 0 (.slice vA0 x.funcs.length vc0) (cs' := #[.slice vA0 x.funcs.length vc0, .slice none 0 0]) rfl); clear M2
  have Z1 := Aside0.mk (Mem.set (A := [_, _, _]) Z0.out 1 (.slice vA1 x.consts.length vc1) (cs' := #[.slice vA0 x.funcs.length vc0, .slice vA1 x.consts.length vc1]) rfl); clear Z0
  refine bodyPost_ret (results_cell_row rfl _ _ (w.heap.size + 1) 37 #[.slice vA0 x.funcs.length vc0, .slice vA1 x.consts.length vc1] (0, 0) _ rfl (Z1.out.blk (.tail _ (.tail _ (.tail _ (.head _))))) hu2 rfl (by kernel_rfl)) rfl ?_
  exact ⟨_, rfl, kImageA_mkM _ _ _ x (rowA (Z1.out.val (.tail _ (.head _))) (Z1.out.fits _ (.tail _ (.head _))).1) (Z1.out.rowT (.head _)), Z1.out.below⟩
end Go.Proofs.Ytcbaokflimdjnaa
end
section
namespace Go.Proofs.Ytcbaokflimdjnaa.QFnExactVerify
open Go.RowKit Go.Proofs.YtcbaokflimdjnaaW.PrintWords Go.Proofs.YtcbaokflimdjnaaW.PrintLast Go.Proofs.YtcbaokflimdjnaaW.PrintMore
attribute [local go_sem] max_two min_two max_three min_three max_four min_four max2_mx min2_mn   -- for this text's walks alone
set_option linter.unusedVariables false
set_option linter.unusedSimpArgs false
def laws_markText.l0 : Nat → Int → ByteArray → Option (ByteArray)
  | 0, _, _ => none
  | k + 1, x0, x3 => if x0 > 0 then ((some (([(wrap64 (48 + (Int.tmod x0 10))) % 256] : List Int) : List Int)).bind fun y375 => (if (strOfNums y375).size + x3.size ≤ 9223372036854775807 then (laws_markText.l0 k (wrap64 (Int.tdiv x0 10)) ((strOfNums y375) ++ x3)) else (none))) else (if 1 + x3.size ≤ 9223372036854775807 then (some ((⟨#[109]⟩ : ByteArray) ++ x3)) else (none))
def laws_markText.f (k : Nat) (a0 : Int) : Option (ByteArray) := if a0 ≤ 0 then (some (⟨#[109, 48]⟩ : ByteArray)) else (laws_markText.l0 k a0 (⟨#[]⟩ : ByteArray))
set_option maxHeartbeats 8000000 in
set_option maxRecDepth 100000 in
theorem laws_markText.calls (k : Nat) (a0 : Int) (r : ByteArray) (w : World) (h : laws_markText.f k a0 = some r) :
    Calls Try.prog 109 #[.int .i64 a0] w fun e w' => e = .returned (.string r) ∧ Below w.heap.size w w' := by
  have HB := Aside0.mk (Below.refl w.heap.size w)
  have H : (if a0 ≤ 0 then (some (⟨#[109, 48]⟩ : ByteArray)) else (laws_markText.l0 k a0 (⟨#[]⟩ : ByteArray))) = some r := h
  clear h
  by_cases c2 : a0 ≤ 0
  · rw [if_pos c2] at H
    have c2b0 : decide (a0 ≤ 0) = true := decide_eq_true c2
    clear c2
    obtain rfl := Option.some.inj H
    go_enter Try.func109, Try.ntmps109
    go_wp2
    go_ret
    exact ⟨by first | rfl | (simp; done) | (simp [errW_none, errW_some] <;> rfl) | (simp [*, errW_none, errW_some] <;> rfl) | (simp [bne, List.isEmpty_iff]; done) | (rw [Bool.eq_iff_iff]; simp), by repeat (first | (with_reducible first | exact HB.out | apply below_alloc | apply pw_below_drewN | apply below_drew1) | exact HB.out)⟩
  · rw [if_neg c2] at H
    have c2b0 : decide (a0 ≤ 0) = false := decide_eq_false c2
    clear c2
    have H' := Aside0.mk H
    clear H
    go_enter Try.func109, Try.ntmps109
    go_wp2
    go_loopg [0, 3] k (fun kq v0 v3 w' => ∃ (x0_1 : Int) (x3_1 : ByteArray), v0 = .int .i64 x0_1 ∧ v3 = .string x3_1 ∧ Aside0 (laws_markText.l0 kq x0_1 x3_1 = some r) ∧ Aside0 (kq ≤ k) ∧ Aside0 (Below w.heap.size w w'))
    case atStart => exact ⟨(a0), ((⟨#[]⟩ : ByteArray)), (by first | rfl | (simp; done) | (simp [*]; done)), (by first | rfl | (simp; done) | (simp [*]; done)), H', ⟨Nat.le_refl _⟩, ⟨by repeat (first | (with_reducible first | exact HB.out | apply below_alloc | apply pw_below_drewN | apply below_drew1) | exact HB.out)⟩⟩
    case round =>
      clear H'
      try clear c1
      try clear c2
      try clear c2b0
      try clear p2
      obtain ⟨x0_1, x3_1, rfl, rfl, HA, HK1, HB⟩ := hrel
      cases gk with
      | zero => exact absurd HA.out (by simp [laws_markText.l0])
      | succ k1 =>
        have H := HA.out
        clear HA
        simp only [laws_markText.l0] at H
        by_cases c3 : x0_1 > 0
        · rw [if_pos c3] at H
          have c3b0 : decide (0 < x0_1) = true := decide_eq_true c3
          clear c3
          obtain ⟨y375, hy375⟩ : ∃ y_ : List Int, y_ = (([(wrap64 (48 + (Int.tmod x0_1 10))) % 256] : List Int)) := ⟨_, rfl⟩
          replace H : (if (strOfNums y375).size + x3_1.size ≤ 9223372036854775807 then (laws_markText.l0 k1 (wrap64 (Int.tdiv x0_1 10)) ((strOfNums y375) ++ x3_1)) else (none)) = some r := by first | (rw [hy375]; with_reducible exact H) | (have H2_ := (Option.bind_some _ _).symm.trans H; rw [hy375]; with_reducible exact H2_) | (have H2_ := (Option.bind_some _ _).symm.trans H; with_reducible exact H2_) | with_reducible exact H | (rw [hy375]; exact H) | exact H
          have Ny375 := Aside0.mk hy375
          clear hy375
          by_cases c4 : (strOfNums y375).size + x3_1.size ≤ 9223372036854775807
          · rw [if_pos c4] at H
            have c4b0 := eq_true c4
            have c4b1 : decide ((strOfNums y375).size + x3_1.size ≤ 9223372036854775807) = true := decide_eq_true c4
            try have c4b2 : (9223372036854775807 < (strOfNums y375).size + x3_1.size) = False := eq_false (Nat.not_lt.2 c4)
            have H' := Aside0.mk H
            clear H
            go_wp2_with (first | ((with_reducible refine gate_dst (N := 12) rfl ?_); refine Kd.R_lit (Kd.int .u8) _ 5 ?hg (N := 12) ?hd (xs := ([(wrap64 (48 + (Int.tmod x0_1 10))) % 256] : List Int)) (inner := [.int .u8 ((wrap64 (48 + (Int.tmod x0_1 10))) % 256)]) (ok := fun _ => True) (okp := fun _ => True) ?hr ?hp (fun _ hk => hk) trivial (Below.refl _ _) (Nat.le_refl _) (by simp) ?_; (case hd => rfl); (case hg => rfl); (case hr => first | (go_simp; done) | (go_simp; rfl)); (case hp => exact (Reps.one (show Kd.M (Kd.int .u8) _ _ _ ((wrap64 (48 + (Int.tmod x0_1 10))) % 256) [.int .u8 ((wrap64 (48 + (Int.tmod x0_1 10))) % 256)] from rfl) (Reps.none _ _))); intro v376 w5 ho6 hb hg_ hnew_; clear hg_ hnew_; (first | rw [← Ny375.out] at ho6 | (simp only [Int.reduceToNat] at ho6; rw [← Ny375.out] at ho6)); have n0_ := Aside0.mk (Kd.R_lower ho6 (below_size (by repeat (first | (with_reducible first | exact HB.out | apply below_alloc | apply pw_below_drewN | apply below_drew1) | exact HB.out)))); have n1_ := Aside0.mk (below_step (by repeat (first | (with_reducible first | exact HB.out | apply below_alloc | apply pw_below_drewN | apply below_drew1) | exact HB.out)) hb); clear HB; have HO377 := n0_; have HB := n1_; clear n0_ n1_; clear hb ho6; have hcv7 := own_string (P := Try.prog) Try.underlying96 Try.underlying5 Try.underlying9 (Kd.own_of_R HO377.out)))
            go_roundg k1
            case measure => have := HK1.out; omega
            case rel => exact ⟨(wrap64 (Int.tdiv x0_1 10)), ((strOfNums y375) ++ x3_1), (by first | rfl | (simp; done) | (simp [*]; done)), (by first | rfl | (simp; done) | (simp [*]; done)), H', ⟨by have := HK1.out; omega⟩, ⟨by repeat (first | (with_reducible first | exact HB.out | apply below_alloc | apply pw_below_drewN | apply below_drew1) | exact HB.out)⟩⟩
          · rw [if_neg c4] at H
            exact absurd H (by simp)
        · rw [if_neg c3] at H
          have c3b0 : decide (0 < x0_1) = false := decide_eq_false c3
          clear c3
          by_cases c8 : 1 + x3_1.size ≤ 9223372036854775807
          · rw [if_pos c8] at H
            have c8b0 := eq_true c8
            have c8b1 : decide (1 + x3_1.size ≤ 9223372036854775807) = true := decide_eq_true c8
            try have c8b2 : (9223372036854775807 < 1 + x3_1.size) = False := eq_false (Nat.not_lt.2 c8)
            obtain rfl := Option.some.inj H
            go_wp2
            go_ret
            exact ⟨by first | rfl | (simp; done) | (simp [errW_none, errW_some] <;> rfl) | (simp [*, errW_none, errW_some] <;> rfl) | (simp [bne, List.isEmpty_iff]; done) | (rw [Bool.eq_iff_iff]; simp), by repeat (first | (with_reducible first | exact HB.out | apply below_alloc | apply pw_below_drewN | apply below_drew1) | exact HB.out)⟩
          · rw [if_neg c8] at H
            exact absurd H (by simp)
end Go.Proofs.Ytcbaokflimdjnaa.QFnExactVerify
end
section
namespace Go.Proofs.Ytcbaokflimdjnaa
open Go.RowKit Go.Proofs.YtcbaokflimdjnaaW.PrintWords Go.Proofs.YtcbaokflimdjnaaW.PrintMore Go.Proofs.Ytcbaokflimdjnaa.Law Go.Proofs.Ytcbaokflimdjnaa.Num Go.Proofs.Ytcbaokflimdjnaa.QFnExactVerify
set_option linter.unusedVariables false
set_option linter.unusedSimpArgs false
set_option autoImplicit false
theorem nums_size (v : Int) : (strOfNums [v]).size = 1 := rfl
theorem text_some : ∀ (n : Nat) (x : Int) (s : ByteArray), 0 ≤ x → x < 10 ^ n → x < 9223372036854775808 → s.size + n ≤ 1000 → ∃ r, laws_markText.l0 (n + 1) x s = some r
  | 0, x, s, h0, h1, hb, hs => by
    unfold laws_markText.l0
    rw [if_neg (by simp at h1; omega), if_pos (by omega)]
    exact ⟨_, rfl⟩
  | n + 1, x, s, h0, h1, hb, hs => by
    unfold laws_markText.l0
    by_cases hx : x > 0
    · rw [if_pos hx, Option.bind_some, if_pos (by rw [nums_size]; omega)]
      have hp : (10 : Int) ^ (n + 1) = 10 * 10 ^ n := by rw [Int.pow_succ, Int.mul_comm]
      have e : Int.tdiv x 10 = x / 10 := Int.tdiv_eq_ediv_of_nonneg h0
      rw [e, wrap64_id (by omega) (by omega)]
      exact text_some n (x / 10) _ (by omega) (by omega) (by omega) (by rw [ByteArray.size_append, nums_size]; omega)
    · rw [if_neg hx, if_pos (by omega)]
      exact ⟨_, rfl⟩
def mkText (k : Int) : ByteArray := (laws_markText.f 31 k).getD ByteArray.empty
theorem text_ok {k : Int} (h0 : 0 ≤ k) (h1 : k < 9223372036854775808) : laws_markText.f 31 k = some (mkText k) := by
  have h : ∃ r, laws_markText.f 31 k = some r := by
    unfold laws_markText.f
    split
    · exact ⟨_, rfl⟩
    · exact text_some 30 k _ h0 (by omega) h1 (by decide)
  obtain ⟨r, hr⟩ := h
  unfold mkText
  rw [hr]
  rfl
def mkCap (k : Int) : Cap := ⟨(k % 3 == 0), (k + 1)⟩
def mkCapS (k : Int) (n : Nat) : List Cap := (List.range n).map (fun (i : Nat) => mkCap (k + 2 * (i : Int)))
theorem mkCapS_len (k : Int) (n : Nat) : (mkCapS k n).length = n := by simp [mkCapS]
theorem el_mkCapS (k : Int) {n j : Nat} (h : j < n) : el zCap (mkCapS k n) j = mkCap (k + 2 * (j : Int)) := by simp [el, mkCapS, h]
set_option maxHeartbeats 4000000 in
set_option maxRecDepth 100000 in
theorem markCapS (v1 : Value) (l : List Cap) (k : Int) (w0 w : World) (lo : Nat) (ok : Nat → Prop) (hB : Below w0.heap.size w0 w) (hlo : w0.heap.size ≤ lo) (hr : kCap.R 105 w lo ok v1 l) (h0 : 0 ≤ k) (h1 : k + 2 * l.length ≤ 4611686018427387904) :
    Calls Try.prog 106 #[v1, .int .i64 k] w fun e w' => e = .returned (.int .i64 (k + 2 * (l.length : Int))) ∧ kCap.R 105 w' lo ok v1 (mkCapS k l.length) ∧ Below w0.heap.size w0 w' ∧ Kept w w' ok := by
  have HB := Aside0.mk hB
  have HO := Aside0.mk hr
  have HK := Aside0.mk (Kept.refl w ok)
  have HOK := Aside0.mk hr.1
  have hu := Try.underlying105
  obtain ⟨A, c, rfl⟩ := Kd.R_slice hr
  have hll : l.length ≤ 9223372036854775807 := by omega
  clear hB hr
  go_enter Try.func106, Try.ntmps106
  go_wp2
  go_loopw [1, 5] (fun u v wr => ∃ (j : Nat) (kk : Int) (xs : List Cap), u = .int .i64 kk ∧ v = .int .i64 j ∧ Aside0 (kk = k + 2 * (j : Int)) ∧ j ≤ l.length ∧ xs.length = l.length ∧ Aside0 (∀ i : Nat, i < j → el zCap xs i = el zCap (mkCapS k l.length) i) ∧ Aside0 (kCap.R 105 wr lo ok (.slice A l.length c) xs) ∧ Aside0 (Below w0.heap.size w0 wr) ∧ Aside0 (Kept w wr ok)) (fun u v _ => l.length - (intOf v).toNat)
  case atStart => exact ⟨0, k, _, rfl, rfl, ⟨by simp⟩, by omega, rfl, ⟨fun i hi => by omega⟩, HO, HB, HK⟩
  case round =>
    clear HO HB HK
    obtain ⟨j, kk, xs, rfl, rfl, HKK, hj, hn, HE, HO, HB, HK⟩ := hrel
    have hkk : 0 ≤ kk ∧ kk ≤ 4611686018427387904 := by have := HKK.out; omega
    by_cases hlt : j < l.length
    · have hb2 : (j : Int) < (l.length : Int) := by omega
      obtain ⟨go, co, hv, gb, gl, cl0, HG0⟩ := Kd.R_form HO.out (by omega)
      rw [hn] at hv
      have hg : ok go := HOK.out go (by rw [hv]; simp [Value.ownBlock])
      injection hv with hA _ hc
      subst hA; subst hc; clear HG0
      obtain ⟨ce, hcl, hM, hcc, hfr⟩ := Kd.R_elem HO.out zCap (j : Int) (by omega) (by omega)
      have hce := kCap_openM hM; subst hce
      rw [Int.toNat_natCast] at hcc hfr
      have y0 := hcc 0 _ rfl; replace y0 : wr.cell? ⟨go, j * 2, none⟩ = _ := y0; have f0 := hfr 0; replace f0 : wr.frozen? ⟨go, j * 2, none⟩ = false := f0
      have y1 := hcc 1 _ rfl; replace y1 : wr.cell? ⟨go, j * 2 + 1, none⟩ = _ := y1; have f1 := hfr 1; replace f1 : wr.frozen? ⟨go, j * 2 + 1, none⟩ = false := f1
      have HP := Aside0.mk (Kd.R_seg HO.out (j : Int) (by omega) (by omega) (seg := [.bool (kk % 3 == 0), .int .i64 (kk + 1)]) (j := 0) hcl (by rw [Int.toNat_natCast]; exact hcc) (show 2 ≤ 2 from by decide) (x' := mkCap kk) (kCap_mkM _ _ _ (mkCap kk)) (fun _ hk => hk)).1
      have GB := Aside0.mk gb; have GK := Aside0.mk hg
      clear gb gl hcl hcc hfr hM hg
      go_wp2
      go_roundw
      case measure => simp [intOf]; omega
      case rel => exact ⟨j + 1, kk + 2, _, by first | rfl | (simp [Int.add_assoc]; done) | go_num, by go_num, ⟨by have := HKK.out; omega⟩, by omega, by simpa using hn, ⟨fun i hi => by rcases Nat.lt_succ_iff_lt_or_eq.1 hi with h | h; (rw [el_set_ne (by omega)]; exact HE.out i h); subst h; rw [el_mkCapS k hlt, ← HKK.out]; exact el_set_eq (by omega)⟩, HP, ⟨below_set (below_set (HB.out) (Nat.le_trans hlo GB.out)) (Nat.le_trans hlo GB.out)⟩, ⟨Kept.setCell (Kept.setCell (HK.out) (.inl GK.out) _) (.inl GK.out) _⟩⟩
    · have hb2 : ¬ (j : Int) < (l.length : Int) := by omega
      have hj2 : j = l.length := by omega
      have he : xs = mkCapS k l.length := el_ext zCap (by rw [hn, mkCapS_len]) (fun i hi => HE.out i (by omega))
      subst he
      have hke := HKK.out
      rw [hj2] at hke
      subst hke
      go_wp2
      go_ret
      exact ⟨rfl, HO.out, HB.out, HK.out⟩
def mkIns (k : Int) : Ins := ⟨k, (k + 1), (k + 1 + 1)⟩
def mkInsS (k : Int) (n : Nat) : List Ins := (List.range n).map (fun (i : Nat) => mkIns (k + 3 * (i : Int)))
theorem mkInsS_len (k : Int) (n : Nat) : (mkInsS k n).length = n := by simp [mkInsS]
theorem el_mkInsS (k : Int) {n j : Nat} (h : j < n) : el zIns (mkInsS k n) j = mkIns (k + 3 * (j : Int)) := by simp [el, mkInsS, h]
set_option maxHeartbeats 4000000 in
set_option maxRecDepth 100000 in
theorem markInsS (v1 : Value) (l : List Ins) (k : Int) (w0 w : World) (lo : Nat) (ok : Nat → Prop) (hB : Below w0.heap.size w0 w) (hlo : w0.heap.size ≤ lo) (hr : kIns.R 76 w lo ok v1 l) (h0 : 0 ≤ k) (h1 : k + 3 * l.length ≤ 4611686018427387904) :
    Calls Try.prog 107 #[v1, .int .i64 k] w fun e w' => e = .returned (.int .i64 (k + 3 * (l.length : Int))) ∧ kIns.R 76 w' lo ok v1 (mkInsS k l.length) ∧ Below w0.heap.size w0 w' ∧ Kept w w' ok := by
  have HB := Aside0.mk hB
  have HO := Aside0.mk hr
  have HK := Aside0.mk (Kept.refl w ok)
  have HOK := Aside0.mk hr.1
  have hu := Try.underlying76
  obtain ⟨A, c, rfl⟩ := Kd.R_slice hr
  have hll : l.length ≤ 9223372036854775807 := by omega
  clear hB hr
  go_enter Try.func107, Try.ntmps107
  go_wp2
  go_loopw [1, 5] (fun u v wr => ∃ (j : Nat) (kk : Int) (xs : List Ins), u = .int .i64 kk ∧ v = .int .i64 j ∧ Aside0 (kk = k + 3 * (j : Int)) ∧ j ≤ l.length ∧ xs.length = l.length ∧ Aside0 (∀ i : Nat, i < j → el zIns xs i = el zIns (mkInsS k l.length) i) ∧ Aside0 (kIns.R 76 wr lo ok (.slice A l.length c) xs) ∧ Aside0 (Below w0.heap.size w0 wr) ∧ Aside0 (Kept w wr ok)) (fun u v _ => l.length - (intOf v).toNat)
  case atStart => exact ⟨0, k, _, rfl, rfl, ⟨by simp⟩, by omega, rfl, ⟨fun i hi => by omega⟩, HO, HB, HK⟩
  case round =>
    clear HO HB HK
    obtain ⟨j, kk, xs, rfl, rfl, HKK, hj, hn, HE, HO, HB, HK⟩ := hrel
    have hkk : 0 ≤ kk ∧ kk ≤ 4611686018427387904 := by have := HKK.out; omega
    by_cases hlt : j < l.length
    · have hb2 : (j : Int) < (l.length : Int) := by omega
      obtain ⟨go, co, hv, gb, gl, cl0, HG0⟩ := Kd.R_form HO.out (by omega)
      rw [hn] at hv
      have hg : ok go := HOK.out go (by rw [hv]; simp [Value.ownBlock])
      injection hv with hA _ hc
      subst hA; subst hc; clear HG0
      obtain ⟨ce, hcl, hM, hcc, hfr⟩ := Kd.R_elem HO.out zIns (j : Int) (by omega) (by omega)
      have hce := kIns_openM hM; subst hce
      rw [Int.toNat_natCast] at hcc hfr
      have y0 := hcc 0 _ rfl; replace y0 : wr.cell? ⟨go, j * 3, none⟩ = _ := y0; have f0 := hfr 0; replace f0 : wr.frozen? ⟨go, j * 3, none⟩ = false := f0
      have y1 := hcc 1 _ rfl; replace y1 : wr.cell? ⟨go, j * 3 + 1, none⟩ = _ := y1; have f1 := hfr 1; replace f1 : wr.frozen? ⟨go, j * 3 + 1, none⟩ = false := f1
      have y2 := hcc 2 _ rfl; replace y2 : wr.cell? ⟨go, j * 3 + 2, none⟩ = _ := y2; have f2 := hfr 2; replace f2 : wr.frozen? ⟨go, j * 3 + 2, none⟩ = false := f2
      have HP := Aside0.mk (Kd.R_seg HO.out (j : Int) (by omega) (by omega) (seg := [.int .i64 kk, .int .i64 (kk + 1), .int .i64 (kk + 1 + 1)]) (j := 0) hcl (by rw [Int.toNat_natCast]; exact hcc) (show 3 ≤ 3 from by decide) (x' := mkIns kk) (kIns_mkM _ _ _ (mkIns kk)) (fun _ hk => hk)).1
      have GB := Aside0.mk gb; have GK := Aside0.mk hg
      clear gb gl hcl hcc hfr hM hg
      go_wp2
      go_roundw
      case measure => simp [intOf]; omega
      case rel => exact ⟨j + 1, kk + 3, _, by first | rfl | (simp [Int.add_assoc]; done) | go_num, by go_num, ⟨by have := HKK.out; omega⟩, by omega, by simpa using hn, ⟨fun i hi => by rcases Nat.lt_succ_iff_lt_or_eq.1 hi with h | h; (rw [el_set_ne (by omega)]; exact HE.out i h); subst h; rw [el_mkInsS k hlt, ← HKK.out]; exact el_set_eq (by omega)⟩, HP, ⟨below_set (below_set (below_set (HB.out) (Nat.le_trans hlo GB.out)) (Nat.le_trans hlo GB.out)) (Nat.le_trans hlo GB.out)⟩, ⟨Kept.setCell (Kept.setCell (Kept.setCell (HK.out) (.inl GK.out) _) (.inl GK.out) _) (.inl GK.out) _⟩⟩
    · have hb2 : ¬ (j : Int) < (l.length : Int) := by omega
      have hj2 : j = l.length := by omega
      have he : xs = mkInsS k l.length := el_ext zIns (by rw [hn, mkInsS_len]) (fun i hi => HE.out i (by omega))
      subst he
      have hke := HKK.out
      rw [hj2] at hke
      subst hke
      go_wp2
      go_ret
      exact ⟨rfl, HO.out, HB.out, HK.out⟩
def mkHandler (k : Int) : Handler := ⟨k, (k + 1), (k + 1 + 1)⟩
def mkHandlerS (k : Int) (n : Nat) : List Handler := (List.range n).map (fun (i : Nat) => mkHandler (k + 3 * (i : Int)))
theorem mkHandlerS_len (k : Int) (n : Nat) : (mkHandlerS k n).length = n := by simp [mkHandlerS]
theorem el_mkHandlerS (k : Int) {n j : Nat} (h : j < n) : el zHandler (mkHandlerS k n) j = mkHandler (k + 3 * (j : Int)) := by simp [el, mkHandlerS, h]
set_option maxHeartbeats 4000000 in
set_option maxRecDepth 100000 in
theorem markHandlerS (v1 : Value) (l : List Handler) (k : Int) (w0 w : World) (lo : Nat) (ok : Nat → Prop) (hB : Below w0.heap.size w0 w) (hlo : w0.heap.size ≤ lo) (hr : kHandler.R 107 w lo ok v1 l) (h0 : 0 ≤ k) (h1 : k + 3 * l.length ≤ 4611686018427387904) :
    Calls Try.prog 108 #[v1, .int .i64 k] w fun e w' => e = .returned (.int .i64 (k + 3 * (l.length : Int))) ∧ kHandler.R 107 w' lo ok v1 (mkHandlerS k l.length) ∧ Below w0.heap.size w0 w' ∧ Kept w w' ok := by
  have HB := Aside0.mk hB
  have HO := Aside0.mk hr
  have HK := Aside0.mk (Kept.refl w ok)
  have HOK := Aside0.mk hr.1
  have hu := Try.underlying107
  obtain ⟨A, c, rfl⟩ := Kd.R_slice hr
  have hll : l.length ≤ 9223372036854775807 := by omega
  clear hB hr
  go_enter Try.func108, Try.ntmps108
  go_wp2
  go_loopw [1, 5] (fun u v wr => ∃ (j : Nat) (kk : Int) (xs : List Handler), u = .int .i64 kk ∧ v = .int .i64 j ∧ Aside0 (kk = k + 3 * (j : Int)) ∧ j ≤ l.length ∧ xs.length = l.length ∧ Aside0 (∀ i : Nat, i < j → el zHandler xs i = el zHandler (mkHandlerS k l.length) i) ∧ Aside0 (kHandler.R 107 wr lo ok (.slice A l.length c) xs) ∧ Aside0 (Below w0.heap.size w0 wr) ∧ Aside0 (Kept w wr ok)) (fun u v _ => l.length - (intOf v).toNat)
  case atStart => exact ⟨0, k, _, rfl, rfl, ⟨by simp⟩, by omega, rfl, ⟨fun i hi => by omega⟩, HO, HB, HK⟩
  case round =>
    clear HO HB HK
    obtain ⟨j, kk, xs, rfl, rfl, HKK, hj, hn, HE, HO, HB, HK⟩ := hrel
    have hkk : 0 ≤ kk ∧ kk ≤ 4611686018427387904 := by have := HKK.out; omega
    by_cases hlt : j < l.length
    · have hb2 : (j : Int) < (l.length : Int) := by omega
      obtain ⟨go, co, hv, gb, gl, cl0, HG0⟩ := Kd.R_form HO.out (by omega)
      rw [hn] at hv
      have hg : ok go := HOK.out go (by rw [hv]; simp [Value.ownBlock])
      injection hv with hA _ hc
      subst hA; subst hc; clear HG0
      obtain ⟨ce, hcl, hM, hcc, hfr⟩ := Kd.R_elem HO.out zHandler (j : Int) (by omega) (by omega)
      have hce := kHandler_openM hM; subst hce
      rw [Int.toNat_natCast] at hcc hfr
      have y0 := hcc 0 _ rfl; replace y0 : wr.cell? ⟨go, j * 3, none⟩ = _ := y0; have f0 := hfr 0; replace f0 : wr.frozen? ⟨go, j * 3, none⟩ = false := f0
      have y1 := hcc 1 _ rfl; replace y1 : wr.cell? ⟨go, j * 3 + 1, none⟩ = _ := y1; have f1 := hfr 1; replace f1 : wr.frozen? ⟨go, j * 3 + 1, none⟩ = false := f1
      have y2 := hcc 2 _ rfl; replace y2 : wr.cell? ⟨go, j * 3 + 2, none⟩ = _ := y2; have f2 := hfr 2; replace f2 : wr.frozen? ⟨go, j * 3 + 2, none⟩ = false := f2
      have HP := Aside0.mk (Kd.R_seg HO.out (j : Int) (by omega) (by omega) (seg := [.int .i64 kk, .int .i64 (kk + 1), .int .i64 (kk + 1 + 1)]) (j := 0) hcl (by rw [Int.toNat_natCast]; exact hcc) (show 3 ≤ 3 from by decide) (x' := mkHandler kk) (kHandler_mkM _ _ _ (mkHandler kk)) (fun _ hk => hk)).1
      have GB := Aside0.mk gb; have GK := Aside0.mk hg
      clear gb gl hcl hcc hfr hM hg
      go_wp2
      go_roundw
      case measure => simp [intOf]; omega
      case rel => exact ⟨j + 1, kk + 3, _, by first | rfl | (simp [Int.add_assoc]; done) | go_num, by go_num, ⟨by have := HKK.out; omega⟩, by omega, by simpa using hn, ⟨fun i hi => by rcases Nat.lt_succ_iff_lt_or_eq.1 hi with h | h; (rw [el_set_ne (by omega)]; exact HE.out i h); subst h; rw [el_mkHandlerS k hlt, ← HKK.out]; exact el_set_eq (by omega)⟩, HP, ⟨below_set (below_set (below_set (HB.out) (Nat.le_trans hlo GB.out)) (Nat.le_trans hlo GB.out)) (Nat.le_trans hlo GB.out)⟩, ⟨Kept.setCell (Kept.setCell (Kept.setCell (HK.out) (.inl GK.out) _) (.inl GK.out) _) (.inl GK.out) _⟩⟩
    · have hb2 : ¬ (j : Int) < (l.length : Int) := by omega
      have hj2 : j = l.length := by omega
      have he : xs = mkHandlerS k l.length := el_ext zHandler (by rw [hn, mkHandlerS_len]) (fun i hi => HE.out i (by omega))
      subst he
      have hke := HKK.out
      rw [hj2] at hke
      subst hke
      go_wp2
      go_ret
      exact ⟨rfl, HO.out, HB.out, HK.out⟩
def mkConst (k : Int) : Const := ⟨k, k + 1, mkText (k + 1 + 1)⟩
def mkConstS (k : Int) (n : Nat) : List Const := (List.range n).map (fun (i : Nat) => mkConst (k + 3 * (i : Int)))
theorem mkConstS_len (k : Int) (n : Nat) : (mkConstS k n).length = n := by simp [mkConstS]
theorem el_mkConstS (k : Int) {n j : Nat} (h : j < n) : el zConst (mkConstS k n) j = mkConst (k + 3 * (j : Int)) := by simp [el, mkConstS, h]
set_option maxHeartbeats 4000000 in
set_option maxRecDepth 100000 in
theorem markConstS (v1 : Value) (l : List Const) (k : Int) (w0 w : World) (lo : Nat) (ok : Nat → Prop) (hB : Below w0.heap.size w0 w) (hlo : w0.heap.size ≤ lo) (hr : kConst.R 100 w lo ok v1 l) (h0 : 0 ≤ k) (h1 : k + 3 * l.length ≤ 4611686018427387904) :
    Calls Try.prog 65 #[v1, .int .i64 k] w fun e w' => e = .returned (.int .i64 (k + 3 * (l.length : Int))) ∧ kConst.R 100 w' lo ok v1 (mkConstS k l.length) ∧ Below w0.heap.size w0 w' ∧ Kept w w' ok := by
  have HB := Aside0.mk hB
  have HO := Aside0.mk hr
  have HK := Aside0.mk (Kept.refl w ok)
  have HOK := Aside0.mk hr.1
  have hu := Try.underlying100
  obtain ⟨A, c, rfl⟩ := Kd.R_slice hr
  have hll : l.length ≤ 9223372036854775807 := by omega
  clear hB hr
  go_enter Try.func65, Try.ntmps65
  go_wp2
  go_loopw [1, 5] (fun u v wr => ∃ (j : Nat) (kk : Int) (xs : List Const), u = .int .i64 kk ∧ v = .int .i64 j ∧ Aside0 (kk = k + 3 * (j : Int)) ∧ j ≤ l.length ∧ xs.length = l.length ∧ Aside0 (∀ i : Nat, i < j → el zConst xs i = el zConst (mkConstS k l.length) i) ∧ Aside0 (kConst.R 100 wr lo ok (.slice A l.length c) xs) ∧ Aside0 (Below w0.heap.size w0 wr) ∧ Aside0 (Kept w wr ok)) (fun u v _ => l.length - (intOf v).toNat)
  case atStart => exact ⟨0, k, _, rfl, rfl, ⟨by simp⟩, by omega, rfl, ⟨fun i hi => by omega⟩, HO, HB, HK⟩
  case round =>
    clear HO HB HK
    obtain ⟨j, kk, xs, rfl, rfl, HKK, hj, hn, HE, HO, HB, HK⟩ := hrel
    have hkk : 0 ≤ kk ∧ kk ≤ 4611686018427387904 := by have := HKK.out; omega
    by_cases hlt : j < l.length
    · have hb2 : (j : Int) < (l.length : Int) := by omega
      have hj0 : (0 : Int) ≤ (j : Int) := by omega
      have hk3 : kk + 3 ≤ 4611686018427387904 := by have := HKK.out; omega
      obtain ⟨go, co, hv, gb, gl, cl0, HG0⟩ := Kd.R_form HO.out (by omega)
      rw [hn] at hv
      have hg : ok go := HOK.out go (by rw [hv]; simp [Value.ownBlock])
      injection hv with hA _ hc
      subst hA; subst hc; clear HG0
      obtain ⟨ce, hcl, hM, hcc, hfr⟩ := Kd.R_elem HO.out zConst (j : Int) (by omega) (by omega)
      have hce := kConst_openM hM; subst hce
      rw [Int.toNat_natCast] at hcc hfr
      have y0 := hcc 0 _ rfl; replace y0 : wr.cell? ⟨go, j * 3, none⟩ = _ := y0; have f0 := hfr 0; replace f0 : wr.frozen? ⟨go, j * 3, none⟩ = false := f0
      have y1 := hcc 1 _ rfl; replace y1 : wr.cell? ⟨go, j * 3 + 1, none⟩ = _ := y1; have f1 := hfr 1; replace f1 : wr.frozen? ⟨go, j * 3 + 1, none⟩ = false := f1
      have y2 := hcc 2 _ rfl; replace y2 : wr.cell? ⟨go, j * 3 + 2, none⟩ = _ := y2; have f2 := hfr 2; replace f2 : wr.frozen? ⟨go, j * 3 + 2, none⟩ = false := f2
      have HP := Aside0.mk (Kd.R_seg HO.out (j : Int) (by omega) (by omega) (seg := [.int .i64 kk, .int .u64 (kk + 1)]) (j := 0) hcl (by rw [Int.toNat_natCast]; exact hcc) (show 2 ≤ 3 from by decide) (x' := ⟨kk, kk + 1, (xs.getD j zConst).text⟩) (kConst_mkM _ _ _ ⟨kk, kk + 1, (xs.getD j zConst).text⟩) (fun _ hk => hk)).1
      have GB := Aside0.mk gb; have GK := Aside0.mk hg
      have HB2 := Aside0.mk (below_set (below_set HB.out (Nat.le_trans hlo gb) (j := j * 3) (v := .int .i64 kk)) (Nat.le_trans hlo gb) (j := j * 3 + 1) (v := .int .u64 (kk + 1)))
      have HK2 := Aside0.mk (Kept.setCell (Kept.setCell HK.out (p := ⟨go, j * 3, none⟩) (.inl hg) (.int .i64 kk)) (p := ⟨go, j * 3 + 1, none⟩) (.inl hg) (.int .u64 (kk + 1)))
      have hw1 : IntKind.u64.wrap (kk + 1) = kk + 1 := IntWalk.u64_in _ (by omega)
      have hx2 := pw_cell_below (Below.refl _ _) y2
      clear gb gl hcl hcc hfr hM hg
      go_wp2_with fail
      refine (laws_markText.calls 31 (kk + 1 + 1) (mkText (kk + 1 + 1)) _ (text_ok (by omega) (by omega))).mono ?_; rintro e w2 ⟨rfl, hb⟩
      have HP1 : Aside0 (kConst.R 100 ((wr.setCell ⟨go, j * 3, none⟩ (.int .i64 kk)).setCell ⟨go, j * 3 + 1, none⟩ (.int .u64 (kk + 1))) lo ok (.slice (some ⟨go, 0, none⟩) l.length c) (xs.set j ⟨kk, kk + 1, (xs.getD j zConst).text⟩)) := HP
      have HP2 := Aside0.mk (Kd.R_below HP1.out hb)
      have HB3 := Aside0.mk (below_step HB2.out hb); have HK3 := Aside0.mk (Kept.below HK2.out hb)
      clear HP HP1 HB2 HK2 hb y0 y1 y2 f0 f1 f2 hx2
      obtain ⟨ce, hcl, hM, hcc, hfr⟩ := Kd.R_elem HP2.out zConst (j : Int) (by omega) (by omega)
      have hge : (xs.set j ⟨kk, kk + 1, (xs.getD j zConst).text⟩).getD j zConst = (⟨kk, kk + 1, (xs.getD j zConst).text⟩ : Const) := el_set_eq (by omega)
      rw [Int.toNat_natCast, hge] at hM
      have hce := kConst_openM hM; subst hce
      rw [Int.toNat_natCast] at hcc hfr
      have y2 := hcc 2 _ rfl; replace y2 : w2.cell? ⟨go, j * 3 + 2, none⟩ = _ := y2; have f2 := hfr 2; replace f2 : w2.frozen? ⟨go, j * 3 + 2, none⟩ = false := f2
      have HP := Aside0.mk (Kd.R_seg HP2.out (j : Int) (by omega) (by omega) (seg := [.string (mkText (kk + 1 + 1))]) (j := 2) hcl (by rw [Int.toNat_natCast]; exact hcc) (show 3 ≤ 3 from by decide) (x' := mkConst kk) (kConst_mkM _ _ _ (mkConst kk)) (fun _ hk => hk)).1
      rw [Int.toNat_natCast, List.set_set] at HP
      clear hcl hcc hfr hM hge
      go_wp2
      go_roundw
      case measure => simp [intOf]; omega
      case rel => exact ⟨j + 1, kk + 3, _, by first | rfl | (simp [Int.add_assoc]; done) | go_num, by go_num, ⟨by have := HKK.out; omega⟩, by omega, by simpa using hn, ⟨fun i hi => by rcases Nat.lt_succ_iff_lt_or_eq.1 hi with h | h; (rw [el_set_ne (by omega)]; exact HE.out i h); subst h; rw [el_mkConstS k hlt, ← HKK.out]; exact el_set_eq (by omega)⟩, HP, ⟨below_set HB3.out (Nat.le_trans hlo GB.out)⟩, ⟨Kept.setCell HK3.out (.inl GK.out) _⟩⟩
    · have hb2 : ¬ (j : Int) < (l.length : Int) := by omega
      have hj2 : j = l.length := by omega
      have he : xs = mkConstS k l.length := el_ext zConst (by rw [hn, mkConstS_len]) (fun i hi => HE.out i (by omega))
      subst he
      have hke := HKK.out
      rw [hj2] at hke
      subst hke
      go_wp2
      go_ret
      exact ⟨rfl, HO.out, HB.out, HK.out⟩
end Go.Proofs.Ytcbaokflimdjnaa
end
section
namespace Go.Proofs.Ytcbaokflimdjnaa
open Go.RowKit Go.Proofs.YtcbaokflimdjnaaW.PrintWords Go.Proofs.YtcbaokflimdjnaaW.PrintMore Go.Proofs.Ytcbaokflimdjnaa.Law Go.Proofs.Ytcbaokflimdjnaa.Num Go.Proofs.Ytcbaokflimdjnaa.QFnExactVerify
set_option linter.unusedVariables false
set_option linter.unusedSimpArgs false
set_option autoImplicit false
theorem ty_apart {w : World} {k : Nat} {E1 E2 : List Nat} (hd : ∀ a ∈ E1, ∀ b ∈ E2, a ≠ b) (h1 : ∃ q, q ∈ E1 ∧ ∃ cells, w.heap[k]? = some (.cells cells q (0, 0))) (h2 : ∃ q, q ∈ E2 ∧ ∃ cells, w.heap[k]? = some (.cells cells q (0, 0))) : False := by
  obtain ⟨a, ha, c1, e1⟩ := h1
  obtain ⟨b, hb, c2, e2⟩ := h2
  rw [e1] at e2
  injection e2 with e2
  injection e2 with _ e2
  exact hd a ha b hb e2
def cntFunc (x : Func) : Nat := 2 + 2 * x.caps.length + 3 * x.code.length + 3 * x.handlers.length
def mkFunc (x : Func) (k : Int) : Func := ⟨k, k + 1, mkCapS (k + 1 + 1) x.caps.length, mkInsS (k + 1 + 1 + 2 * (x.caps.length : Int)) x.code.length, mkHandlerS (k + 1 + 1 + 2 * (x.caps.length : Int) + 3 * (x.code.length : Int)) x.handlers.length⟩
def cntFuncs (l : List Func) : Nat := (l.map cntFunc).sum
def mkFuncS (k : Int) (l : List Func) : List Func := (List.range l.length).map (fun (j : Nat) => mkFunc (el zFunc l j) (k + (cntFuncs (l.take j) : Int)))
theorem mkFuncS_len (k : Int) (l : List Func) : (mkFuncS k l).length = l.length := by simp [mkFuncS]
theorem el_mkFuncS (k : Int) {l : List Func} {j : Nat} (h : j < l.length) : el zFunc (mkFuncS k l) j = mkFunc (el zFunc l j) (k + (cntFuncs (l.take j) : Int)) := by
  unfold mkFuncS
  rw [el_lt zFunc (by simpa using h), List.getElem_map, List.getElem_range]
theorem cnt_step {l : List Func} {j : Nat} (h : j < l.length) : cntFuncs (l.take (j + 1)) = cntFuncs (l.take j) + cntFunc (el zFunc l j) := by
  unfold cntFuncs
  rw [List.take_add_one, List.getElem?_eq_getElem h, List.map_append, List.sum_append, el_lt zFunc h]
  simp
theorem cnt_le (l : List Func) (j : Nat) : cntFuncs (l.take j) ≤ cntFuncs l := by
  have h : l.take j ++ l.drop j = l := List.take_append_drop j l
  have h2 : cntFuncs l = cntFuncs (l.take j) + cntFuncs (l.drop j) := by
    conv => lhs; rw [← h]
    unfold cntFuncs
    rw [List.map_append, List.sum_append]
  omega
set_option maxHeartbeats 8000000 in
set_option maxRecDepth 100000 in
theorem markFuncS (v1 : Value) (l : List Func) (k : Int) (w0 w : World) (lo : Nat) (ok : Nat → Prop) (hB : Below w0.heap.size w0 w) (hlo : w0.heap.size ≤ lo) (hr : Kd.S kFuncI 73 w lo ok v1 l) (h0 : 0 ≤ k) (h1 : k + (cntFuncs l : Int) ≤ 4611686018427387904) (hll : l.length ≤ 1048576) :
    Calls Try.prog 64 #[v1, .int .i64 k] w fun e w' => e = .returned (.int .i64 (k + (cntFuncs l : Int))) ∧ Kd.S kFuncI 73 w' lo ok v1 (mkFuncS k l) ∧ Below w0.heap.size w0 w' ∧ Kept w w' ok := by
  have HB := Aside0.mk hB
  have HO := Aside0.mk hr
  have HK := Aside0.mk (Kept.refl w ok)
  have HOK := Aside0.mk (Kd.S_R hr).1
  have hu := Try.underlying73
  obtain ⟨A, c, rfl⟩ := Kd.S_slice hr
  clear hB hr
  go_enter Try.func64, Try.ntmps64
  go_wp2
  go_loopw [1, 5] (fun u v wr => ∃ (j : Nat) (kk : Int) (xs : List Func), u = .int .i64 kk ∧ v = .int .i64 j ∧ Aside0 (kk = k + (cntFuncs (l.take j) : Int)) ∧ j ≤ l.length ∧ xs.length = l.length ∧ Aside0 (∀ i : Nat, i < j → el zFunc xs i = el zFunc (mkFuncS k l) i) ∧ Aside0 (∀ i : Nat, j ≤ i → el zFunc xs i = el zFunc l i) ∧ Aside0 (Kd.S kFuncI 73 wr lo ok (.slice A l.length c) xs) ∧ Aside0 (Below w0.heap.size w0 wr) ∧ Aside0 (Kept w wr ok)) (fun u v _ => l.length - (intOf v).toNat)
  case atStart => exact ⟨0, k, l, rfl, rfl, ⟨by simp [cntFuncs]⟩, by omega, rfl, ⟨fun i hi => by omega⟩, ⟨fun i hi => rfl⟩, HO, HB, HK⟩
  case round =>
    clear HO HB HK
    obtain ⟨j, kk, xs, rfl, rfl, HKK, hj, hn, HE, HE2, HO, HB, HK⟩ := hrel
    by_cases hlt : j < l.length
    rotate_left
    · have hb2 : ¬ (j : Int) < (l.length : Int) := by omega
      have hj2 : j = l.length := by omega
      have he : xs = mkFuncS k l := el_ext zFunc (by rw [hn, mkFuncS_len]) (fun i hi => HE.out i (by omega))
      subst he
      have hke := HKK.out
      rw [hj2, List.take_length] at hke
      subst hke
      go_wp2
      go_ret
      exact ⟨rfl, HO.out, HB.out, HK.out⟩
    have hb2 : (j : Int) < (l.length : Int) := by omega
    have hj0 : (0 : Int) ≤ (j : Int) := by omega
    obtain ⟨y, hy⟩ : ∃ y, y = el zFunc l j := ⟨_, rfl⟩
    have HCN := Aside0.mk (cnt_step hlt)
    rw [← hy] at HCN
    have HY := Aside0.mk hy; clear hy
    have hkb : 0 ≤ kk ∧ kk + 2 + 2 * y.caps.length + 3 * y.code.length + 3 * y.handlers.length ≤ 4611686018427387904 := by
      have h1 := HKK.out; have h2 := HCN.out; have h3 := cnt_le l (j + 1)
      unfold cntFunc at h2
      omega
    have hkk : 0 ≤ kk ∧ kk ≤ 4611686018427387904 := by omega
    obtain ⟨go, co, hv, gb, gl, HG0⟩ := Kd.S_form HO.out (by omega)
    rw [hn] at hv
    have hg : ok go := HOK.out go (by rw [hv]; simp [Value.ownBlock])
    injection hv with hA _ hc
    subst hA; subst hc; clear HG0
    obtain ⟨oki, c1, hcl, hM, hcc, hfr, hoki, hH⟩ := Kd.S_elem HO.out zFunc (j : Int) (by omega) (by omega)
    rw [Int.toNat_natCast, show xs.getD j zFunc = y from by rw [HY.out]; exact HE2.out j (Nat.le_refl _)] at hM
    obtain ⟨v2, v3, v4, rfl, r2, r3, r4⟩ := kFuncI_openM hM
    rw [Int.toNat_natCast] at hcc hfr
    have y0 := hcc 0 _ rfl; replace y0 : wr.cell? ⟨go, j * 5, none⟩ = _ := y0; have f0 := hfr 0; replace f0 : wr.frozen? ⟨go, j * 5, none⟩ = false := f0
    have y1 := hcc 1 _ rfl; replace y1 : wr.cell? ⟨go, j * 5 + 1, none⟩ = _ := y1; have f1 := hfr 1; replace f1 : wr.frozen? ⟨go, j * 5 + 1, none⟩ = false := f1
    have hS := Kd.H_seg hH (by omega) (by omega) (seg := [.int .i64 kk, .int .i64 (kk + 1)]) (j := 0) (show 2 ≤ 5 from by decide) (by intro q hq; simp at hq; rcases hq with rfl | rfl <;> rfl)
    have hF := fun (b : Nat) (hb : oki b) => (hoki b hb).2
    have S1 : Aside0 (Kd.S kFuncI 73 ((wr.setCell ⟨go, j * 5, none⟩ (.int .i64 kk)).setCell ⟨go, j * 5 + 1, none⟩ (.int .i64 (kk + 1))) lo ok (.slice (some ⟨go, 0, none⟩) l.length c) (xs.set j ⟨kk, kk + 1, y.caps, y.code, y.handlers⟩)) :=
      ⟨Kd.H_back hS.1 (kFuncI_mkM _ _ _ ⟨kk, kk + 1, y.caps, y.code, y.handlers⟩ (Kd.R_far (Kd.R_far r2 (p := ⟨go, j * 5, none⟩) hF (.int .i64 kk)) (p := ⟨go, j * 5 + 1, none⟩) hF (.int .i64 (kk + 1))) (Kd.R_far (Kd.R_far r3 (p := ⟨go, j * 5, none⟩) hF (.int .i64 kk)) (p := ⟨go, j * 5 + 1, none⟩) hF (.int .i64 (kk + 1))) (Kd.R_far (Kd.R_far r4 (p := ⟨go, j * 5, none⟩) hF (.int .i64 kk)) (p := ⟨go, j * 5 + 1, none⟩) hF (.int .i64 (kk + 1)))) (fun _ h => h)⟩
    have B1 := Aside0.mk (below_set (below_set HB.out (Nat.le_trans hlo gb) (j := j * 5) (v := .int .i64 kk)) (Nat.le_trans hlo gb) (j := j * 5 + 1) (v := .int .i64 (kk + 1)))
    have K1 := Aside0.mk (Kept.setCell (Kept.setCell HK.out (p := ⟨go, j * 5, none⟩) (.inl hg) (.int .i64 kk)) (p := ⟨go, j * 5 + 1, none⟩) (.inl hg) (.int .i64 (kk + 1)))
    have GB := Aside0.mk gb
    clear hcl hM hcc hfr hoki hH hS hF r2 r3 r4 gb gl hg
    go_upto_region 8 with fail
    clear y0 y1 f0 f1
    generalize (wr.setCell ⟨go, j * 5, none⟩ (.int .i64 kk)).setCell ⟨go, j * 5 + 1, none⟩ (.int .i64 (kk + 1)) = w1 at S1 B1 K1 ⊢
    have hx1 : (xs.set j ⟨kk, kk + 1, y.caps, y.code, y.handlers⟩).length = l.length := by simpa using hn
    obtain ⟨oki, c1, hcl, hM, hcc, hfr, hoki, hH⟩ := Kd.S_elem S1.out zFunc (j : Int) (by omega) (by omega)
    rw [Int.toNat_natCast, show (xs.set j (⟨kk, kk + 1, y.caps, y.code, y.handlers⟩ : Func)).getD j zFunc = (⟨kk, kk + 1, y.caps, y.code, y.handlers⟩ : Func) from el_set_eq (by omega)] at hM
    obtain ⟨v2, v3, v4, rfl, r2, r3, r4⟩ := kFuncI_openM hM
    rw [Int.toNat_natCast] at hcc
    obtain ⟨B, d, hvb⟩ := Kd.R_slice r2; have yb := hcc 2 _ rfl; replace yb : w1.cell? ⟨go, j * 5 + 2, none⟩ = _ := yb
    rw [hvb] at yb
    have RB := Aside0.mk (Kd.R_bound r2)
    rw [hvb] at RB
    have Q3 := Aside0.mk (Kd.R_bound r3)
    have Q4 := Aside0.mk (Kd.R_bound r4)
    have HH := Aside0.mk hH; have HI := Aside0.mk hoki; have HV := Aside0.mk hvb
    clear hcl hM hcc hfr hoki hH r2 r3 r4 hvb
    go_wp2_with fail
    refine (markCapS _ y.caps (kk + 1 + 1) w0 _ lo _ B1.out hlo RB.out (by omega) (by omega)).mono ?_; rintro e w2 ⟨rfl, hr, hb, hk⟩
    rw [← HV.out] at hr
    have S2 := Aside0.mk (Kd.H_back (Kd.H_kept HH.out hk (fun k _ hn h2 => hn h2.1)) (kFuncI_mkM _ _ _ (⟨kk, kk + 1, mkCapS (kk + 1 + 1) y.caps.length, y.code, y.handlers⟩ : Func) (Kd.R_mono hr (fun k hk => hk.1)) (Kd.R_mono (Kd.R_kept Q3.out hk (fun k h1 h2 => ty_apart (E1 := 76 :: kIns.E) (E2 := 105 :: kCap.E) (by decide) h1.2.2.2 h2.2.2.2)) (fun k hk => hk.1)) (Kd.R_mono (Kd.R_kept Q4.out hk (fun k h1 h2 => ty_apart (E1 := 107 :: kHandler.E) (E2 := 105 :: kCap.E) (by decide) h1.2.2.2 h2.2.2.2)) (fun k hk => hk.1))) (fun _ h => h))
    rw [Int.toNat_natCast, List.set_set] at S2
    have B2 := Aside0.mk hb; have K2 := Aside0.mk (Kept.then_ K1.out hk (fun k h => .inl (HI.out k h.1).1))
    have hx2 : (xs.set j (⟨kk, kk + 1, mkCapS (kk + 1 + 1) y.caps.length, y.code, y.handlers⟩ : Func)).length = l.length := by simpa using hn
    clear hr hb hk yb RB HH HI HV S1 B1 K1 Q3 Q4 hx1
    obtain ⟨oki, c1, hcl, hM, hcc, hfr, hoki, hH⟩ := Kd.S_elem S2.out zFunc (j : Int) (by omega) (by omega)
    rw [Int.toNat_natCast, show (xs.set j (⟨kk, kk + 1, mkCapS (kk + 1 + 1) y.caps.length, y.code, y.handlers⟩ : Func)).getD j zFunc = (⟨kk, kk + 1, mkCapS (kk + 1 + 1) y.caps.length, y.code, y.handlers⟩ : Func) from el_set_eq (by omega)] at hM
    obtain ⟨v2, v3, v4, rfl, r2, r3, r4⟩ := kFuncI_openM hM
    rw [Int.toNat_natCast] at hcc
    obtain ⟨B, d, hvb⟩ := Kd.R_slice r3; have yb := hcc 3 _ rfl; replace yb : w2.cell? ⟨go, j * 5 + 3, none⟩ = _ := yb
    rw [hvb] at yb
    have RB := Aside0.mk (Kd.R_bound r3)
    rw [hvb] at RB
    have Q2 := Aside0.mk (Kd.R_bound r2)
    have Q4 := Aside0.mk (Kd.R_bound r4)
    have HH := Aside0.mk hH; have HI := Aside0.mk hoki; have HV := Aside0.mk hvb
    clear hcl hM hcc hfr hoki hH r2 r3 r4 hvb
    go_wp2_with fail
    refine (markInsS _ y.code (kk + 1 + 1 + 2 * (y.caps.length : Int)) w0 _ lo _ B2.out hlo RB.out (by omega) (by omega)).mono ?_; rintro e w3 ⟨rfl, hr, hb, hk⟩
    rw [← HV.out] at hr
    have S3 := Aside0.mk (Kd.H_back (Kd.H_kept HH.out hk (fun k _ hn h2 => hn h2.1)) (kFuncI_mkM _ _ _ (⟨kk, kk + 1, mkCapS (kk + 1 + 1) y.caps.length, mkInsS (kk + 1 + 1 + 2 * (y.caps.length : Int)) y.code.length, y.handlers⟩ : Func) (Kd.R_mono (Kd.R_kept Q2.out hk (fun k h1 h2 => ty_apart (E1 := 105 :: kCap.E) (E2 := 76 :: kIns.E) (by decide) h1.2.2.2 h2.2.2.2)) (fun k hk => hk.1)) (Kd.R_mono hr (fun k hk => hk.1)) (Kd.R_mono (Kd.R_kept Q4.out hk (fun k h1 h2 => ty_apart (E1 := 107 :: kHandler.E) (E2 := 76 :: kIns.E) (by decide) h1.2.2.2 h2.2.2.2)) (fun k hk => hk.1))) (fun _ h => h))
    rw [Int.toNat_natCast, List.set_set] at S3
    have B3 := Aside0.mk hb; have K3 := Aside0.mk (Kept.then_ K2.out hk (fun k h => .inl (HI.out k h.1).1))
    have hx3 : (xs.set j (⟨kk, kk + 1, mkCapS (kk + 1 + 1) y.caps.length, mkInsS (kk + 1 + 1 + 2 * (y.caps.length : Int)) y.code.length, y.handlers⟩ : Func)).length = l.length := by simpa using hn
    clear hr hb hk yb RB HH HI HV S2 B2 K2 Q2 Q4 hx2
    obtain ⟨oki, c1, hcl, hM, hcc, hfr, hoki, hH⟩ := Kd.S_elem S3.out zFunc (j : Int) (by omega) (by omega)
    rw [Int.toNat_natCast, show (xs.set j (⟨kk, kk + 1, mkCapS (kk + 1 + 1) y.caps.length, mkInsS (kk + 1 + 1 + 2 * (y.caps.length : Int)) y.code.length, y.handlers⟩ : Func)).getD j zFunc = (⟨kk, kk + 1, mkCapS (kk + 1 + 1) y.caps.length, mkInsS (kk + 1 + 1 + 2 * (y.caps.length : Int)) y.code.length, y.handlers⟩ : Func) from el_set_eq (by omega)] at hM
    obtain ⟨v2, v3, v4, rfl, r2, r3, r4⟩ := kFuncI_openM hM
    rw [Int.toNat_natCast] at hcc
    obtain ⟨B, d, hvb⟩ := Kd.R_slice r4; have yb := hcc 4 _ rfl; replace yb : w3.cell? ⟨go, j * 5 + 4, none⟩ = _ := yb
    rw [hvb] at yb
    have RB := Aside0.mk (Kd.R_bound r4)
    rw [hvb] at RB
    have Q2 := Aside0.mk (Kd.R_bound r2)
    have Q3 := Aside0.mk (Kd.R_bound r3)
    have HH := Aside0.mk hH; have HI := Aside0.mk hoki; have HV := Aside0.mk hvb
    clear hcl hM hcc hfr hoki hH r2 r3 r4 hvb
    go_wp2_with fail
    refine (markHandlerS _ y.handlers (kk + 1 + 1 + 2 * (y.caps.length : Int) + 3 * (y.code.length : Int)) w0 _ lo _ B3.out hlo RB.out (by omega) (by omega)).mono ?_; rintro e w4 ⟨rfl, hr, hb, hk⟩
    rw [← HV.out] at hr
    have S4 := Aside0.mk (Kd.H_back (Kd.H_kept HH.out hk (fun k _ hn h2 => hn h2.1)) (kFuncI_mkM _ _ _ (⟨kk, kk + 1, mkCapS (kk + 1 + 1) y.caps.length, mkInsS (kk + 1 + 1 + 2 * (y.caps.length : Int)) y.code.length, mkHandlerS (kk + 1 + 1 + 2 * (y.caps.length : Int) + 3 * (y.code.length : Int)) y.handlers.length⟩ : Func) (Kd.R_mono (Kd.R_kept Q2.out hk (fun k h1 h2 => ty_apart (E1 := 105 :: kCap.E) (E2 := 107 :: kHandler.E) (by decide) h1.2.2.2 h2.2.2.2)) (fun k hk => hk.1)) (Kd.R_mono (Kd.R_kept Q3.out hk (fun k h1 h2 => ty_apart (E1 := 76 :: kIns.E) (E2 := 107 :: kHandler.E) (by decide) h1.2.2.2 h2.2.2.2)) (fun k hk => hk.1)) (Kd.R_mono hr (fun k hk => hk.1))) (fun _ h => h))
    rw [Int.toNat_natCast, List.set_set] at S4
    have B4 := Aside0.mk hb; have K4 := Aside0.mk (Kept.then_ K3.out hk (fun k h => .inl (HI.out k h.1).1))
    have hx4 : (xs.set j (⟨kk, kk + 1, mkCapS (kk + 1 + 1) y.caps.length, mkInsS (kk + 1 + 1 + 2 * (y.caps.length : Int)) y.code.length, mkHandlerS (kk + 1 + 1 + 2 * (y.caps.length : Int) + 3 * (y.code.length : Int)) y.handlers.length⟩ : Func)).length = l.length := by simpa using hn
    clear hr hb hk yb RB HH HI HV S3 B3 K3 Q2 Q3 hx3
    go_wp2
    go_roundw
    case measure => simp [intOf]; omega
    case rel =>
      refine ⟨j + 1, kk + 1 + 1 + 2 * (y.caps.length : Int) + 3 * (y.code.length : Int) + 3 * (y.handlers.length : Int), _, by first | rfl | go_num, by go_num, ⟨?_⟩, by omega, hx4, ⟨fun i hi => ?_⟩, ⟨fun i hi => ?_⟩, S4, B4, K4⟩
      · have h1 := HKK.out; have h2 := HCN.out; unfold cntFunc at h2; omega
      · rcases Nat.lt_succ_iff_lt_or_eq.1 hi with h | h
        · rw [el_set_ne (by omega)]; exact HE.out i h
        · subst h
          rw [el_mkFuncS k hlt, ← HKK.out, ← HY.out]
          exact el_set_eq (by omega)
      · rw [el_set_ne (by omega)]; exact HE2.out i (by omega)
set_option maxHeartbeats 4000000 in
set_option maxRecDepth 100000 in
theorem markImage (x : Image) (cs : List Value) (k : Int) (w0 w : World) (lo : Nat) (ok : Nat → Prop) (hB : Below w0.heap.size w0 w) (hlo : w0.heap.size ≤ lo) (hok : ∀ b, ok b → b < w.heap.size) (hm : kImageA.M w lo ok x cs) (h0 : 0 ≤ k) (h1 : k + (cntFuncs x.funcs : Int) + 3 * (x.consts.length : Int) ≤ 4611686018427387904) (hl : x.funcs.length ≤ 1048576) :
    Calls Try.prog 20 #[.agg ⟨cs⟩, .int .i64 k] w fun e w' => e = .returned (.int .i64 (k + (cntFuncs x.funcs : Int) + 3 * (x.consts.length : Int))) ∧ kImageA.M w' lo ok ⟨mkFuncS k x.funcs, mkConstS (k + (cntFuncs x.funcs : Int)) x.consts.length⟩ cs ∧ Below w0.heap.size w0 w' ∧ Kept w w' ok := by
  obtain ⟨v0, v1, rfl, hs, hr⟩ := kImageA_openM hm
  obtain ⟨A0, c0, rfl⟩ := Kd.S_slice hs
  obtain ⟨A1, c1, rfl⟩ := Kd.R_slice hr
  clear hm
  have hu := Try.underlying37
  have HS := Aside0.mk (Kd.S_bound (Kd.S_below hs (below_alloc (Below.refl w.heap.size w) (.cells #[.slice A0 x.funcs.length c0, .slice A1 x.consts.length c1] 37))))
  have HR := Aside0.mk (Kd.R_bound (Kd.R_below hr (below_alloc (Below.refl w.heap.size w) (.cells #[.slice A0 x.funcs.length c0, .slice A1 x.consts.length c1] 37))))
  have HB := Aside0.mk (below_alloc hB (.cells #[.slice A0 x.funcs.length c0, .slice A1 x.consts.length c1] 37))
  have HK := Aside0.mk ((Kept.refl w ok).alloc (.cells #[.slice A0 x.funcs.length c0, .slice A1 x.consts.length c1] 37))
  clear hs hr hB
  go_enter Try.func20, Try.ntmps20
  go_wp2_with fail
  refine (markFuncS _ x.funcs k w0 _ lo _ HB.out hlo HS.out h0 (by omega) hl).mono ?_
  rintro e w1 ⟨rfl, hs, hb, hk⟩
  have HR1 := Aside0.mk (Kd.R_kept HR.out hk (fun k h1 h2 => ty_apart (E1 := 100 :: kConst.E) (E2 := 73 :: kFuncI.E) (by decide) h1.2.2.2 h2.2.2.2))
  have HS1 := Aside0.mk (Kd.S_bound (Kd.S_mono hs (fun k h => h.1))); have HB1 := Aside0.mk hb; have HK1 := Aside0.mk (HK.out.then_ hk (fun b hb => .inl hb.1))
  have hbx := (hk.2 w.heap.size (by simp) (fun h => by have := hok _ h.1; omega)).trans (blk_new w (.cells #[.slice A0 x.funcs.length c0, .slice A1 x.consts.length c1] 37))
  have zb := fun o => blk_cell hbx o
  clear hs hb hk HS HR HB HK hbx
  go_wp2_with fail
  clear zb
  refine (markConstS _ x.consts (k + (cntFuncs x.funcs : Int)) w0 _ lo _ HB1.out hlo (Kd.R_bound HR1.out) (by omega) (by omega)).mono ?_
  rintro e w2 ⟨rfl, hr, hb, hk⟩
  have HS2 := Aside0.mk (Kd.S_kept HS1.out hk (fun k h1 h2 => ty_apart (E1 := 73 :: kFuncI.E) (E2 := 100 :: kConst.E) (by decide) h1.2.2.2 h2.2.2.2))
  have HR2 := Aside0.mk hr; have HB2 := Aside0.mk hb; have HK2 := Aside0.mk (HK1.out.then_ hk (fun b hb => .inl hb.1.1))
  clear hr hb hk HS1 HR1 HB1 HK1
  go_wp2
  go_ret
  have e1 : (mkFuncS k x.funcs).length = x.funcs.length := mkFuncS_len _ _
  have e2 : (mkConstS (k + (cntFuncs x.funcs : Int)) x.consts.length).length = x.consts.length := mkConstS_len _ _
  exact ⟨rfl, kImageA_mkM _ _ _ ⟨mkFuncS k x.funcs, mkConstS (k + (cntFuncs x.funcs : Int)) x.consts.length⟩ (Kd.S_mono HS2.out (fun k h => h.1)) (Kd.R_mono HR2.out (fun k h => h.1.1)), HB2.out, HK2.out⟩
end Go.Proofs.Ytcbaokflimdjnaa
end
section
namespace Go.Proofs.Ytcbaokflimdjnaa
open Go.RowKit Go.Proofs.YtcbaokflimdjnaaW.PrintWords Go.Proofs.YtcbaokflimdjnaaW.PrintLast Go.Proofs.Ytcbaokflimdjnaa.Steps Go.Proofs.YtcbaokflimdjnaaW.PrintMore Go.Proofs.Ytcbaokflimdjnaa.Law Go.Proofs.Ytcbaokflimdjnaa.Num Go.Proofs.Ytcbaokflimdjnaa.QFnExactVerify
set_option linter.unusedVariables false
set_option linter.unusedSimpArgs false
set_option autoImplicit false
def heldC.T10 : Bool × List (List Nat × List Nat) := (true, [([], []), ([], []), ([0, 1], [0, 1]), ([2], [2]), ([3], [3]), ([], []), ([5], [5]), ([4, 6], [4, 6])])
def heldC.B10 : List Nat := [0, 0, 3, 7, 15, 0, 32, 127]
theorem heldC.tab10 : rtab .any (opsOf Try.f71 10) = heldC.T10 := by kernel_rfl
theorem heldC.bits10 : waitsOk heldC.T10.2 heldC.B10 = true := by kernel_rfl
set_option maxHeartbeats 4000000 in
set_option maxRecDepth 100000 in
theorem heldCapS (A : Option Addr) (c n : Nat) (l : List Cap) (k : Int) (w : World) (hr : kCap.C w A l.length l) (hl : l = mkCapS k n) (h0 : 0 ≤ k) (h1 : k + 2 * l.length ≤ 4611686018427387904) :
    Calls Try.prog 113 #[.slice A l.length c, .int .i64 k] w fun e w' => e = .returned (.int .i64 (k + 2 * (l.length : Int))) ∧ Below w.heap.size w w' := by
  have HR := Aside0.mk hr; clear hr
  have hn : l.length = n := by rw [hl, mkCapS_len]
  have HL := Aside0.mk hl
  have hll : l.length ≤ 9223372036854775807 := by omega
  have hu := Try.underlying105
  clear hl
  have HB := Aside0.mk (Below.refl w.heap.size w)
  go_enter Try.func113, Try.ntmps113
  go_wp2
  go_loopw [1, 5] (fun u v wr => ∃ (j : Nat) (kk : Int), u = .int .i64 kk ∧ v = .int .i64 j ∧ Aside0 (kk = k + 2 * (j : Int)) ∧ j ≤ l.length ∧ Aside0 (Below w.heap.size w wr)) (fun u v _ => l.length - (intOf v).toNat)
  case atStart => exact ⟨0, k, rfl, rfl, ⟨by simp⟩, by omega, HB⟩
  case round =>
    clear HB
    obtain ⟨j, kk, rfl, rfl, HKK, hj, HB⟩ := hrel
    have hkk : 0 ≤ kk ∧ kk ≤ 4611686018427387904 := by have := HKK.out; omega
    by_cases hlt : j < l.length
    · obtain ⟨a, ha, cK, y0, y1⟩ := Cap_at HR.out j hlt
      cases ha
      have he : el zCap l j = mkCap kk := by rw [HL.out, el_mkCapS k (by omega), ← HKK.out]
      have hb2 : (j : Int) < (l.length : Int) := by omega
      have hk3 : kk + 2 ≤ 4611686018427387904 := by have := HKK.out; omega
      clear cK
      have hx0 := (HB.out.cell (World.block_lt_of_cell? w _ y0)).trans y0; rw [he] at hx0; try simp only [mkCap] at hx0
      have hx1 := (HB.out.cell (World.block_lt_of_cell? w _ y1)).trans y1; rw [he] at hx1; try simp only [mkCap] at hx1
      clear y0 y1 he
      have hq0 : ((kk % 3 == 0) != (kk % 3 == 0)) = false := by simp
      have hq1 : ((kk + 1) != (kk + 1)) = false := by simp
      go_wp2
      go_roundw
      case measure => simp [intOf]; omega
      case rel => exact ⟨j + 1, kk + 2, by first | rfl | (simp [Int.add_assoc]; done) | go_num, by go_num, ⟨by have := HKK.out; omega⟩, by omega, HB⟩
    · have hb2 : ¬ (j : Int) < (l.length : Int) := by omega
      have hj2 : j = l.length := by omega
      have hke := HKK.out
      rw [hj2] at hke
      subst hke
      go_wp2
      go_ret
      exact ⟨rfl, HB.out⟩
set_option maxHeartbeats 4000000 in
set_option maxRecDepth 100000 in
theorem heldInsS (A : Option Addr) (c n : Nat) (l : List Ins) (k : Int) (w : World) (hr : kIns.C w A l.length l) (hl : l = mkInsS k n) (h0 : 0 ≤ k) (h1 : k + 3 * l.length ≤ 4611686018427387904) :
    Calls Try.prog 114 #[.slice A l.length c, .int .i64 k] w fun e w' => e = .returned (.int .i64 (k + 3 * (l.length : Int))) ∧ Below w.heap.size w w' := by
  have HR := Aside0.mk hr; clear hr
  have hn : l.length = n := by rw [hl, mkInsS_len]
  have HL := Aside0.mk hl
  have hll : l.length ≤ 9223372036854775807 := by omega
  have hu := Try.underlying76
  clear hl
  have HB := Aside0.mk (Below.refl w.heap.size w)
  go_enter Try.func114, Try.ntmps114
  go_wp2
  go_loopw [1, 5] (fun u v wr => ∃ (j : Nat) (kk : Int), u = .int .i64 kk ∧ v = .int .i64 j ∧ Aside0 (kk = k + 3 * (j : Int)) ∧ j ≤ l.length ∧ Aside0 (Below w.heap.size w wr)) (fun u v _ => l.length - (intOf v).toNat)
  case atStart => exact ⟨0, k, rfl, rfl, ⟨by simp⟩, by omega, HB⟩
  case round =>
    clear HB
    obtain ⟨j, kk, rfl, rfl, HKK, hj, HB⟩ := hrel
    have hkk : 0 ≤ kk ∧ kk ≤ 4611686018427387904 := by have := HKK.out; omega
    by_cases hlt : j < l.length
    · obtain ⟨a, ha, cK, y0, y1, y2⟩ := Ins_at HR.out j hlt
      cases ha
      have he : el zIns l j = mkIns kk := by rw [HL.out, el_mkInsS k (by omega), ← HKK.out]
      have hb2 : (j : Int) < (l.length : Int) := by omega
      have hk3 : kk + 3 ≤ 4611686018427387904 := by have := HKK.out; omega
      clear cK
      have hx0 := (HB.out.cell (World.block_lt_of_cell? w _ y0)).trans y0; rw [he] at hx0; try simp only [mkIns] at hx0
      have hx1 := (HB.out.cell (World.block_lt_of_cell? w _ y1)).trans y1; rw [he] at hx1; try simp only [mkIns] at hx1
      have hx2 := (HB.out.cell (World.block_lt_of_cell? w _ y2)).trans y2; rw [he] at hx2; try simp only [mkIns] at hx2
      clear y0 y1 y2 he
      have hq0 : (kk != kk) = false := by simp
      have hq1 : ((kk + 1) != (kk + 1)) = false := by simp
      have hq2 : ((kk + 1 + 1) != (kk + 1 + 1)) = false := by simp
      go_wp2
      go_roundw
      case measure => simp [intOf]; omega
      case rel => exact ⟨j + 1, kk + 3, by first | rfl | (simp [Int.add_assoc]; done) | go_num, by go_num, ⟨by have := HKK.out; omega⟩, by omega, HB⟩
    · have hb2 : ¬ (j : Int) < (l.length : Int) := by omega
      have hj2 : j = l.length := by omega
      have hke := HKK.out
      rw [hj2] at hke
      subst hke
      go_wp2
      go_ret
      exact ⟨rfl, HB.out⟩
set_option maxHeartbeats 4000000 in
set_option maxRecDepth 100000 in
theorem heldHandlerS (A : Option Addr) (c n : Nat) (l : List Handler) (k : Int) (w : World) (hr : kHandler.C w A l.length l) (hl : l = mkHandlerS k n) (h0 : 0 ≤ k) (h1 : k + 3 * l.length ≤ 4611686018427387904) :
    Calls Try.prog 115 #[.slice A l.length c, .int .i64 k] w fun e w' => e = .returned (.int .i64 (k + 3 * (l.length : Int))) ∧ Below w.heap.size w w' := by
  have HR := Aside0.mk hr; clear hr
  have hn : l.length = n := by rw [hl, mkHandlerS_len]
  have HL := Aside0.mk hl
  have hll : l.length ≤ 9223372036854775807 := by omega
  have hu := Try.underlying107
  clear hl
  have HB := Aside0.mk (Below.refl w.heap.size w)
  go_enter Try.func115, Try.ntmps115
  go_wp2
  go_loopw [1, 5] (fun u v wr => ∃ (j : Nat) (kk : Int), u = .int .i64 kk ∧ v = .int .i64 j ∧ Aside0 (kk = k + 3 * (j : Int)) ∧ j ≤ l.length ∧ Aside0 (Below w.heap.size w wr)) (fun u v _ => l.length - (intOf v).toNat)
  case atStart => exact ⟨0, k, rfl, rfl, ⟨by simp⟩, by omega, HB⟩
  case round =>
    clear HB
    obtain ⟨j, kk, rfl, rfl, HKK, hj, HB⟩ := hrel
    have hkk : 0 ≤ kk ∧ kk ≤ 4611686018427387904 := by have := HKK.out; omega
    by_cases hlt : j < l.length
    · obtain ⟨a, ha, cK, y0, y1, y2⟩ := Handler_at HR.out j hlt
      cases ha
      have he : el zHandler l j = mkHandler kk := by rw [HL.out, el_mkHandlerS k (by omega), ← HKK.out]
      have hb2 : (j : Int) < (l.length : Int) := by omega
      have hk3 : kk + 3 ≤ 4611686018427387904 := by have := HKK.out; omega
      clear cK
      have hx0 := (HB.out.cell (World.block_lt_of_cell? w _ y0)).trans y0; rw [he] at hx0; try simp only [mkHandler] at hx0
      have hx1 := (HB.out.cell (World.block_lt_of_cell? w _ y1)).trans y1; rw [he] at hx1; try simp only [mkHandler] at hx1
      have hx2 := (HB.out.cell (World.block_lt_of_cell? w _ y2)).trans y2; rw [he] at hx2; try simp only [mkHandler] at hx2
      clear y0 y1 y2 he
      have hq0 : (kk != kk) = false := by simp
      have hq1 : ((kk + 1) != (kk + 1)) = false := by simp
      have hq2 : ((kk + 1 + 1) != (kk + 1 + 1)) = false := by simp
      go_wp2
      go_roundw
      case measure => simp [intOf]; omega
      case rel => exact ⟨j + 1, kk + 3, by first | rfl | (simp [Int.add_assoc]; done) | go_num, by go_num, ⟨by have := HKK.out; omega⟩, by omega, HB⟩
    · have hb2 : ¬ (j : Int) < (l.length : Int) := by omega
      have hj2 : j = l.length := by omega
      have hke := HKK.out
      rw [hj2] at hke
      subst hke
      go_wp2
      go_ret
      exact ⟨rfl, HB.out⟩
set_option maxHeartbeats 4000000 in
set_option maxRecDepth 100000 in
theorem heldConstS (A : Option Addr) (c n : Nat) (l : List Const) (k : Int) (w : World) (hr : kConst.C w A l.length l) (hl : l = mkConstS k n) (h0 : 0 ≤ k) (h1 : k + 3 * l.length ≤ 4611686018427387904) :
    Calls Try.prog 71 #[.slice A l.length c, .int .i64 k] w fun e w' => e = .returned (.int .i64 (k + 3 * (l.length : Int))) ∧ Below w.heap.size w w' := by
  have HR := Aside0.mk hr; clear hr
  have hn : l.length = n := by rw [hl, mkConstS_len]
  have HL := Aside0.mk hl
  have hll : l.length ≤ 9223372036854775807 := by omega
  have hu := Try.underlying100
  clear hl
  have HB := Aside0.mk (Below.refl w.heap.size w)
  go_enter Try.func71, Try.ntmps71
  go_wp2
  go_loopw [1, 5] (fun u v wr => ∃ (j : Nat) (kk : Int), u = .int .i64 kk ∧ v = .int .i64 j ∧ Aside0 (kk = k + 3 * (j : Int)) ∧ j ≤ l.length ∧ Aside0 (Below w.heap.size w wr)) (fun u v _ => l.length - (intOf v).toNat)
  case atStart => exact ⟨0, k, rfl, rfl, ⟨by simp⟩, by omega, HB⟩
  case round =>
    clear HB
    obtain ⟨j, kk, rfl, rfl, HKK, hj, HB⟩ := hrel
    have hkk : 0 ≤ kk ∧ kk ≤ 4611686018427387904 := by have := HKK.out; omega
    by_cases hlt : j < l.length
    · obtain ⟨a, ha, cK, y0, y1, y2⟩ := Const_at HR.out j hlt
      cases ha
      have he : el zConst l j = mkConst kk := by rw [HL.out, el_mkConstS k (by omega), ← HKK.out]
      have hb2 : (j : Int) < (l.length : Int) := by omega
      have hk3 : kk + 3 ≤ 4611686018427387904 := by have := HKK.out; omega
      clear cK
      have hx0 := (HB.out.cell (World.block_lt_of_cell? w _ y0)).trans y0; rw [he] at hx0; try simp only [mkConst] at hx0
      have hx1 := (HB.out.cell (World.block_lt_of_cell? w _ y1)).trans y1; rw [he] at hx1; try simp only [mkConst] at hx1
      have hx2 := (HB.out.cell (World.block_lt_of_cell? w _ y2)).trans y2; rw [he] at hx2; try simp only [mkConst] at hx2
      clear y0 y1 y2 he
      have hq0 : (kk != kk) = false := by simp
      have hq1 : ((kk + 1) != (kk + 1)) = false := by simp
      have hw1 : IntKind.u64.wrap (kk + 1) = kk + 1 := IntWalk.u64_in _ (by omega)
      have hj0 : (0 : Int) ≤ (j : Int) := by omega
      go_upto_region 10 with fail
      have Y2 := Aside0.mk hx2; clear hx0 hx1 hx2
      have hqt : ((mkText (kk + 1 + 1)).toList != (mkText (kk + 1 + 1)).toList) = false := bne_self_eq_false _
      refine sz 8 (fun W => W.cell? ⟨(a.add (j * 3)).block, (a.add (j * 3)).off + 2, none⟩ = some (.string (mkText (kk + 1 + 1))) ∧ W.cell? ⟨(a.add (j * 3)).block, (a.add (j * 3)).off + 2, none⟩ = some (.string (mkText (kk + 1 + 1)))) [] heldC.tab10 heldC.bits10 ⟨pw_cell_below (below_drew1 (Below.refl _ _)) Y2.out, pw_cell_below (below_drew1 (Below.refl _ _)) Y2.out⟩ (fun HT_ HW_ hHeld => ?_)
      refine pz 0 31 ?_; refine pz 1 32 ?_; refine pz 2 33 ?_; refine pz 3 34 ?_; refine pz 5 36 ?_; refine tz 4 35 ?_
      refine ez 6 (some 37) (fun K hK => ?_)
      refine gz Try.func109 #[.int .i64 (kk + 1 + 1)] ?_
      refine (laws_markText.calls 31 (kk + 1 + 1) (mkText (kk + 1 + 1)) _ (text_ok (by omega) (by omega))).mono ?_; rintro e w2 ⟨rfl, hb⟩
      have HB2 := Aside0.mk (below_step HB.out (below_step (below_drew1 (Below.refl _ _)) hb)); have Y3 := pw_cell_below (below_step (below_drew1 (Below.refl _ _)) hb) Y2.out; clear hb
      refine ⟨_, rfl, ?_⟩
      refine hK.out _ _ ⟨Y3, Y3⟩ (fun hHeld => ?_); clear hK K; refine kz (some 37) ?_
      refine pz 7 38 ?_
      refine dz ?_
      clear hHeld
      go_wp2
      go_roundw
      case measure => simp [intOf]; omega
      case rel => exact ⟨j + 1, kk + 3, by first | rfl | (simp [Int.add_assoc]; done) | go_num, by go_num, ⟨by have := HKK.out; omega⟩, by omega, HB2⟩
    · have hb2 : ¬ (j : Int) < (l.length : Int) := by omega
      have hj2 : j = l.length := by omega
      have hke := HKK.out
      rw [hj2] at hke
      subst hke
      go_wp2
      go_ret
      exact ⟨rfl, HB.out⟩
set_option maxHeartbeats 8000000 in
set_option maxRecDepth 100000 in
theorem heldFuncS (A : Option Addr) (c : Nat) (l0 l : List Func) (k : Int) (w : World) (hr : kFuncI.C w A l.length l) (hl : l = mkFuncS k l0) (h0 : 0 ≤ k) (h1 : k + (cntFuncs l0 : Int) ≤ 4611686018427387904) (hll : l.length ≤ 1048576) :
    Calls Try.prog 70 #[.slice A l.length c, .int .i64 k] w fun e w' => e = .returned (.int .i64 (k + (cntFuncs l0 : Int))) ∧ Below w.heap.size w w' := by
  have HR := Aside0.mk hr; clear hr
  have HNL := Aside0.mk (show l.length = l0.length by rw [hl, mkFuncS_len])
  have HL := Aside0.mk hl
  have hu := Try.underlying73
  clear hl
  have HB := Aside0.mk (Below.refl w.heap.size w)
  go_enter Try.func70, Try.ntmps70
  go_wp2
  go_loopw [1, 5] (fun u v wr => ∃ (j : Nat) (kk : Int), u = .int .i64 kk ∧ v = .int .i64 j ∧ Aside0 (kk = k + (cntFuncs (l0.take j) : Int)) ∧ j ≤ l.length ∧ Aside0 (Below w.heap.size w wr)) (fun u v _ => l.length - (intOf v).toNat)
  case atStart => exact ⟨0, k, rfl, rfl, ⟨by simp [cntFuncs]⟩, by omega, HB⟩
  case round =>
    clear HB
    obtain ⟨j, kk, rfl, rfl, HKK, hj, HB⟩ := hrel
    by_cases hlt : j < l.length
    rotate_left
    · have hb2 : ¬ (j : Int) < (l.length : Int) := by omega
      have hj2 : j = l0.length := by have := HNL.out; omega
      have hke := HKK.out
      rw [hj2, List.take_length] at hke
      subst hke
      go_wp2
      go_ret
      exact ⟨rfl, HB.out⟩
    have hb2 : (j : Int) < (l.length : Int) := by omega
    have hj0 : (0 : Int) ≤ (j : Int) := by omega
    have hlt0 : j < l0.length := by have := HNL.out; omega
    obtain ⟨y, hy⟩ : ∃ y, y = el zFunc l0 j := ⟨_, rfl⟩
    have HCN := Aside0.mk (cnt_step hlt0)
    rw [← hy] at HCN
    have hkb : 0 ≤ kk ∧ kk + 2 + 2 * y.caps.length + 3 * y.code.length + 3 * y.handlers.length ≤ 4611686018427387904 := by
      have h1 := HKK.out; have h2 := HCN.out; have h3 := cnt_le l0 (j + 1)
      unfold cntFunc at h2
      omega
    have hkk : 0 ≤ kk ∧ kk ≤ 4611686018427387904 := by omega
    obtain ⟨a, A2, c2, A3, c3, A4, c4, ha, hK, y0, y1, y2, y3, y4⟩ := FuncI_at HR.out j hlt
    cases ha
    have he : el zFunc l j = mkFunc y kk := by rw [HL.out, el_mkFuncS k hlt0, ← HKK.out, ← hy]
    rw [he] at hK y0 y1 y2 y3 y4
    obtain ⟨B2, d2, B3, d3, B4, d4, hce, l2, g2, l3, g3, l4, g4⟩ := kFuncI_open hK
    injection hce with _ t1; injection t1 with _ t2; injection t2 with s2 t3; injection t3 with s3 t4; injection t4 with s4 _; injection s2 with e2 _ f2; injection s3 with e3 _ f3; injection s4 with e4 _ f4; subst e2; subst e3; subst e4; subst f2; subst f3; subst f4

    have C2 := Aside0.mk g2; have C3 := Aside0.mk g3; have C4 := Aside0.mk g4
    have n2 : (mkFunc y kk).caps.length = y.caps.length := mkCapS_len _ _
    have n3 : (mkFunc y kk).code.length = y.code.length := mkInsS_len _ _
    have n4 : (mkFunc y kk).handlers.length = y.handlers.length := mkHandlerS_len _ _
    rw [n2] at y2; rw [n3] at y3; rw [n4] at y4
    simp only [mkFunc] at y0 y1
    have Y2 := Aside0.mk y2; have Y3 := Aside0.mk y3; have Y4 := Aside0.mk y4; have HY := Aside0.mk hy
    clear g2 g3 g4 l2 l3 l4 hK he hy y2 y3 y4
    have hx0 := pw_cell_below HB.out y0; have hx1 := pw_cell_below HB.out y1; have hx2 := pw_cell_below HB.out Y2.out
    clear y0 y1
    have hq0 : (kk != kk) = false := by simp
    have hq1 : ((kk + 1) != (kk + 1)) = false := by simp
    go_wp2_with fail
    clear hx0 hx1 hx2
    have D := heldCapS A2 c2 y.caps.length (mkFunc y kk).caps (kk + 1 + 1) _ (Kd.C_below C2.out HB.out) rfl (by omega) (by rw [n2]; omega)
    rw [n2] at D
    refine D.mono ?_; clear D; rintro e w2 ⟨rfl, hb⟩
    have HB2 := Aside0.mk (below_step HB.out hb); clear hb
    have gk2 : decide (kk + 1 + 1 + 2 * (y.caps.length : Int) < 0) = false := by simp; omega
    have hx3 := pw_cell_below HB2.out Y3.out
    go_wp2_with fail
    clear hx3
    have D := heldInsS A3 c3 y.code.length (mkFunc y kk).code (kk + 1 + 1 + 2 * (y.caps.length : Int)) _ (Kd.C_below C3.out HB2.out) rfl (by omega) (by rw [n3]; omega)
    rw [n3] at D
    refine D.mono ?_; clear D; rintro e w3 ⟨rfl, hb⟩
    have HB3 := Aside0.mk (below_step HB2.out hb); clear hb
    have gk3 : decide (kk + 1 + 1 + 2 * (y.caps.length : Int) + 3 * (y.code.length : Int) < 0) = false := by simp; omega
    have hx4 := pw_cell_below HB3.out Y4.out
    go_wp2_with fail
    clear hx4
    have D := heldHandlerS A4 c4 y.handlers.length (mkFunc y kk).handlers (kk + 1 + 1 + 2 * (y.caps.length : Int) + 3 * (y.code.length : Int)) _ (Kd.C_below C4.out HB3.out) rfl (by omega) (by rw [n4]; omega)
    rw [n4] at D
    refine D.mono ?_; clear D; rintro e w4 ⟨rfl, hb⟩
    have HB4 := Aside0.mk (below_step HB3.out hb); clear hb
    have gk4 : decide (kk + 1 + 1 + 2 * (y.caps.length : Int) + 3 * (y.code.length : Int) + 3 * (y.handlers.length : Int) < 0) = false := by simp; omega
    clear n2 n3 n4
    go_wp2
    clear gk2 gk3 gk4 hq0 hq1
    go_roundw
    case measure => simp [intOf]; omega
    case rel => exact ⟨j + 1, kk + 1 + 1 + 2 * (y.caps.length : Int) + 3 * (y.code.length : Int) + 3 * (y.handlers.length : Int), by first | rfl | go_num, by go_num, ⟨by have h1 := HKK.out; have h2 := HCN.out; unfold cntFunc at h2; omega⟩, by omega, HB4⟩
set_option maxHeartbeats 4000000 in
set_option maxRecDepth 100000 in
theorem heldImage (x0 x : Image) (cs : List Value) (w : World) (hk : kImageI.K w x cs) (hx : x = ⟨mkFuncS 1 x0.funcs, mkConstS (1 + (cntFuncs x0.funcs : Int)) x0.consts.length⟩) (h1 : 1 + (cntFuncs x0.funcs : Int) + 3 * (x0.consts.length : Int) ≤ 4611686018427387904) (hl : x0.funcs.length ≤ 1048576) :
    Calls Try.prog 39 #[.agg ⟨cs⟩, .int .i64 1] w fun e w' => e = .returned (.int .i64 (1 + (cntFuncs x0.funcs : Int) + 3 * (x0.consts.length : Int))) ∧ Below w.heap.size w w' := by
  obtain ⟨A0, c0, A1, c1, rfl, l0, g0, l1, g1⟩ := kImageI_open hk
  have e0 : x.funcs = mkFuncS 1 x0.funcs := by rw [hx]
  have e1 : x.consts = mkConstS (1 + (cntFuncs x0.funcs : Int)) x0.consts.length := by rw [hx]
  have n0 : x.funcs.length = x0.funcs.length := by rw [e0, mkFuncS_len]
  have n1 : x.consts.length = x0.consts.length := by rw [e1, mkConstS_len]
  have hu := Try.underlying37
  have M0 := Aside0.mk ((Mem.start w).allocAt rfl #[.slice A0 x.funcs.length c0, .slice A1 x.consts.length c1] 37)
  have G0 := Aside0.mk g0; have G1 := Aside0.mk g1; have E0 := Aside0.mk e0; have E1 := Aside0.mk e1
  have N0 := Aside0.mk n0; have N1 := Aside0.mk n1
  clear hk g0 g1 l0 l1 e0 e1 hx n0 n1
  have z := M0.out.box (.head _)
  go_enter Try.func39, Try.ntmps39
  go_wp2_with fail
  clear z
  refine (heldFuncS A0 c0 x0.funcs x.funcs 1 _ (Kd.C_below G0.out M0.out.below) E0.out (by omega) (by omega) (by have := N0.out; omega)).mono ?_; rintro e w1 ⟨rfl, hb⟩
  have M1 := Aside0.mk (M0.out.step hb); clear hb M0
  have gk : decide (1 + (cntFuncs x0.funcs : Int) < 0) = false := by simp; omega
  have z := M1.out.box (.head _)
  go_wp2_with fail
  clear z
  have D := heldConstS A1 c1 x0.consts.length x.consts (1 + (cntFuncs x0.funcs : Int)) _ (Kd.C_below G1.out M1.out.below) E1.out (by omega) (by have := N1.out; omega)
  rw [show (1 + (cntFuncs x0.funcs : Int) + 3 * (x.consts.length : Int)) = 1 + (cntFuncs x0.funcs : Int) + 3 * (x0.consts.length : Int) from by rw [N1.out]] at D
  refine D.mono ?_; clear D; rintro e w2 ⟨rfl, hb⟩
  have M2 := Aside0.mk (M1.out.step hb); clear hb M1
  have gk2 : decide (1 + (cntFuncs x0.funcs : Int) + 3 * (x0.consts.length : Int) < 0) = false := by simp; omega
  go_wp2
  go_ret
  exact ⟨rfl, M2.out.below⟩
end Go.Proofs.Ytcbaokflimdjnaa
end
