/- Contracts of the laws' own functions, by program: what is left of a purse. No condition beyond what the arguments read as, and that the purse is not below 0 nor above 1048576. -/
import Derived.Test.YtdgjbpefbkgnpaaKinds
import Derived.Test.YtdgjbpefbkgnpaaLaw
import Derived.Test.YtdgjbpefbkgnpaaNum
import Derived.WalkKit
import Derived.KernelRfl
import Derived.Deep.LoopGhost
import Derived.Deep.QuietTactic
import Derived.BigQuiet
import Derived.RowKit3
import Derived.Deep.RegionWith
import Derived.Deep.RegionHeld3
import Derived.WalkLawsBesides
namespace Go.Proofs.Ytdgjbpefbkgnpaa
open Go.RowKit Go.Proofs.YtdgjbpefbkgnpaaW.PrintWords Go.Proofs.YtdgjbpefbkgnpaaW.PrintMore Go.Proofs.Ytdgjbpefbkgnpaa.Law Go.Proofs.Ytdgjbpefbkgnpaa.Num
set_option linter.unusedVariables false
set_option linter.unusedSimpArgs false
/-- What is left of a purse: -1 where it does not do. -/
def sub (left : Int) (n : Nat) : Int := if left < n then -1 else left - n
theorem sub_sub {left : Int} {m n : Nat} (h : ¬ left < m) : sub (left - m) n = sub left (m + n) := by
  unfold sub
  by_cases e : left - m < n
  · rw [if_pos e, if_pos (by omega)]
  · rw [if_neg e, if_neg (by omega)]
    omega
def sizeCapS (l : List Cap) : Nat := l.length
theorem szCapS (A : Option Addr) (c : Nat) (l : List Cap) (left : Int) (w : World) (hr : kCap.C w A l.length l) (h0 : 0 ≤ left) (h1 : left ≤ 1048576) :
    Calls Try.prog 137 #[.slice A l.length c, .int .i64 left] w fun e w' => e = .returned (.int .i64 (sub left (sizeCapS l))) ∧ Drawn0 w w' := by
  have hL : l.length ≤ 9223372036854775807 := hr.2.1
  unfold sizeCapS sub
  clear hr
  by_cases h : left < (l.length : Int)
  · rw [if_pos h]
    have d1 : decide (left - (l.length : Int) < 0) = true := by simp; omega
    have d2 : decide (left < (l.length : Int)) = true := by simp; omega
    go_enter Try.func137, Try.ntmps137
    go_wp2
    go_ret
    exact ⟨rfl, Drawn0.refl _⟩
  · rw [if_neg h]
    have d1 : decide (left - (l.length : Int) < 0) = false := by simp; omega
    have d2 : decide (left < (l.length : Int)) = false := by simp; omega
    go_enter Try.func137, Try.ntmps137
    go_wp2
    go_ret
    exact ⟨rfl, Drawn0.refl _⟩
def sizeInsS (l : List Ins) : Nat := l.length
theorem szInsS (A : Option Addr) (c : Nat) (l : List Ins) (left : Int) (w : World) (hr : kIns.C w A l.length l) (h0 : 0 ≤ left) (h1 : left ≤ 1048576) :
    Calls Try.prog 138 #[.slice A l.length c, .int .i64 left] w fun e w' => e = .returned (.int .i64 (sub left (sizeInsS l))) ∧ Drawn0 w w' := by
  have hL : l.length ≤ 9223372036854775807 := hr.2.1
  unfold sizeInsS sub
  clear hr
  by_cases h : left < (l.length : Int)
  · rw [if_pos h]
    have d1 : decide (left - (l.length : Int) < 0) = true := by simp; omega
    have d2 : decide (left < (l.length : Int)) = true := by simp; omega
    go_enter Try.func138, Try.ntmps138
    go_wp2
    go_ret
    exact ⟨rfl, Drawn0.refl _⟩
  · rw [if_neg h]
    have d1 : decide (left - (l.length : Int) < 0) = false := by simp; omega
    have d2 : decide (left < (l.length : Int)) = false := by simp; omega
    go_enter Try.func138, Try.ntmps138
    go_wp2
    go_ret
    exact ⟨rfl, Drawn0.refl _⟩
def sizeHandlerS (l : List Handler) : Nat := l.length
theorem szHandlerS (A : Option Addr) (c : Nat) (l : List Handler) (left : Int) (w : World) (hr : kHandler.C w A l.length l) (h0 : 0 ≤ left) (h1 : left ≤ 1048576) :
    Calls Try.prog 139 #[.slice A l.length c, .int .i64 left] w fun e w' => e = .returned (.int .i64 (sub left (sizeHandlerS l))) ∧ Drawn0 w w' := by
  have hL : l.length ≤ 9223372036854775807 := hr.2.1
  unfold sizeHandlerS sub
  clear hr
  by_cases h : left < (l.length : Int)
  · rw [if_pos h]
    have d1 : decide (left - (l.length : Int) < 0) = true := by simp; omega
    have d2 : decide (left < (l.length : Int)) = true := by simp; omega
    go_enter Try.func139, Try.ntmps139
    go_wp2
    go_ret
    exact ⟨rfl, Drawn0.refl _⟩
  · rw [if_neg h]
    have d1 : decide (left - (l.length : Int) < 0) = false := by simp; omega
    have d2 : decide (left < (l.length : Int)) = false := by simp; omega
    go_enter Try.func139, Try.ntmps139
    go_wp2
    go_ret
    exact ⟨rfl, Drawn0.refl _⟩
def sizeConst (x : Const) : Nat := x.text.size
def GoodConst (x : Const) : Prop := x.text.size ≤ maxLen
set_option maxHeartbeats 4000000 in
set_option maxRecDepth 100000 in
theorem szConst (x : Const) (cs : List Value) (left : Int) (w : World) (hk : kConst.K w x cs) (hgood : GoodConst x) (h0 : 0 ≤ left) (h1 : left ≤ 1048576) :
    Calls Try.prog 115 #[.agg ⟨cs⟩, .int .i64 left] w fun e w' => e = .returned (.int .i64 (sub left (sizeConst x))) ∧ Below w.heap.size w w' := by
  have ecs := kConst_open hk; subst ecs
  clear hk
  have hu := Try.underlying156
  unfold GoodConst at hgood
  have HG := Aside0.mk hgood
  have A0 := Aside0.mk ((At.start w).alloc #[.int .i64 x.kind, .int .u64 x.num, .string x.text] 156)
  obtain ⟨n0, hn0⟩ : ∃ q, q = x.text.size := ⟨_, rfl⟩
  have HN := Aside0.mk hn0
  have hb0 : n0 ≤ 9223372036854775807 := by have := HG.out; unfold maxLen at this; omega
  clear hn0
  clear hgood
  have hsize : sizeConst x = n0 := by unfold sizeConst; have h := HN.out; omega
  rw [hsize]; have HSZ := Aside0.mk hsize; clear hsize
  by_cases c0 : left < (n0 : Int)
  · skip
    have hfin : sub left (n0) = -1 := by unfold sub; rw [if_pos (by omega)]
    rw [hfin]; clear hfin
    have s0 : sub (left) n0 = -1 := by unfold sub; rw [if_pos (by omega)]
    have d0 : decide (left - (n0 : Int) < 0) = true := by simp; omega
    have d0b : decide (left < (n0 : Int)) = true := by simp; omega
    have S0 := Aside0.mk s0; clear s0
    have e0 : (x.text.size : Int) = (n0 : Int) := by have := HN.out; omega
    go_enter Try.func115, Try.ntmps115
    go_wp2
    go_ret
    exact ⟨rfl, A0.out.below⟩
  · skip
    have hfin : sub left (n0) = left - n0 := by unfold sub; rw [if_neg (by omega)] <;> omega
    rw [hfin]; clear hfin
    have s0 : sub (left) n0 = left - (n0 : Int) := by unfold sub; rw [if_neg (by omega)]
    have d0 : decide (left - (n0 : Int) < 0) = false := by simp; omega
    have g0 : 0 ≤ left - (n0 : Int) := by omega
    have d0b : decide (left < (n0 : Int)) = false := by simp; omega
    have S0 := Aside0.mk s0; clear s0
    have e0 : (x.text.size : Int) = (n0 : Int) := by have := HN.out; omega
    go_enter Try.func115, Try.ntmps115
    go_wp2
    go_ret
    exact ⟨rfl, A0.out.below⟩
def sizeFunc (x : Func) : Nat := sizeCapS x.caps + sizeInsS x.code + sizeHandlerS x.handlers
def GoodFunc (x : Func) : Prop := True
set_option maxHeartbeats 4000000 in
set_option maxRecDepth 100000 in
theorem szFunc (x : Func) (cs : List Value) (left : Int) (w : World) (hk : kFuncL.K w x cs) (hgood : GoodFunc x) (h0 : 0 ≤ left) (h1 : left ≤ 1048576) :
    Calls Try.prog 114 #[.agg ⟨cs⟩, .int .i64 left] w fun e w' => e = .returned (.int .i64 (sub left (sizeFunc x))) ∧ Below w.heap.size w w' := by
  obtain ⟨pA2, pc2, pA3, pc3, pA4, pc4, rfl, pl2, pg2, pl3, pg3, pl4, pg4⟩ := kFuncL_open hk
  have pG2 := Aside0.mk pg2; clear pg2 pl2
  have pG3 := Aside0.mk pg3; clear pg3 pl3
  have pG4 := Aside0.mk pg4; clear pg4 pl4
  clear hk
  have hu := Try.underlying154
  unfold GoodFunc at hgood
  have HG := Aside0.mk hgood
  have A0 := Aside0.mk ((At.start w).alloc #[.int .i64 x.params, .int .i64 x.regs, .slice pA2 x.caps.length pc2, .slice pA3 x.code.length pc3, .slice pA4 x.handlers.length pc4] 154)
  obtain ⟨n0, hn0⟩ : ∃ q, q = sizeCapS x.caps := ⟨_, rfl⟩
  obtain ⟨n1, hn1⟩ : ∃ q, q = sizeInsS x.code := ⟨_, rfl⟩
  obtain ⟨n2, hn2⟩ : ∃ q, q = sizeHandlerS x.handlers := ⟨_, rfl⟩
  have HN := Aside0.mk (show n0 = sizeCapS x.caps ∧ n1 = sizeInsS x.code ∧ n2 = sizeHandlerS x.handlers from ⟨hn0, hn1, hn2⟩)
  clear hn0
  clear hn1
  clear hn2
  clear hgood
  have hsize : sizeFunc x = n0 + n1 + n2 := by unfold sizeFunc; have h := HN.out; omega
  rw [hsize]; have HSZ := Aside0.mk hsize; clear hsize
  by_cases c0 : left < (n0 : Int)
  · skip
    have hfin : sub left (n0 + n1 + n2) = -1 := by unfold sub; rw [if_pos (by omega)]
    rw [hfin]; clear hfin
    have s0 : sub (left) n0 = -1 := by unfold sub; rw [if_pos (by omega)]
    have S0 := Aside0.mk s0; clear s0
    go_enter Try.func114, Try.ntmps114
    go_wp2_with fail
    refine (szCapS _ _ _ (left) _ (A0.out.reads pG2.out) (by omega) (by omega)).mono ?_
    rintro e w1 ⟨rfl, hb0⟩
    rw [show sizeCapS x.caps = n0 from (by have := HN.out; omega), S0.out]
    have A1 := Aside0.mk (A0.out.step (hb0.below)); clear A0 hb0; have z0 := A1.out.cell0
    go_wp2
    go_ret
    exact ⟨rfl, A1.out.below⟩
  · skip
    by_cases c1 : left - (n0 : Int) < (n1 : Int)
    · skip
      have hfin : sub left (n0 + n1 + n2) = -1 := by unfold sub; rw [if_pos (by omega)]
      rw [hfin]; clear hfin
      have s0 : sub (left) n0 = left - (n0 : Int) := by unfold sub; rw [if_neg (by omega)]
      have d0 : decide (left - (n0 : Int) < 0) = false := by simp; omega
      have g0 : 0 ≤ left - (n0 : Int) := by omega
      have S0 := Aside0.mk s0; clear s0
      have s1 : sub (left - (n0 : Int)) n1 = -1 := by unfold sub; rw [if_pos (by omega)]
      have S1 := Aside0.mk s1; clear s1
      go_enter Try.func114, Try.ntmps114
      go_wp2_with fail
      refine (szCapS _ _ _ (left) _ (A0.out.reads pG2.out) (by omega) (by omega)).mono ?_
      rintro e w1 ⟨rfl, hb0⟩
      rw [show sizeCapS x.caps = n0 from (by have := HN.out; omega), S0.out]
      have A1 := Aside0.mk (A0.out.step (hb0.below)); clear A0 hb0; have z0 := A1.out.cell0
      go_wp2_with fail
      refine (szInsS _ _ _ (left - (n0 : Int)) _ (A1.out.reads pG3.out) (by omega) (by omega)).mono ?_
      rintro e w2 ⟨rfl, hb0⟩
      rw [show sizeInsS x.code = n1 from (by have := HN.out; omega), S1.out]
      have A2 := Aside0.mk (A1.out.step (hb0.below)); clear A1 hb0 z0; have z0 := A2.out.cell0
      go_wp2
      go_ret
      exact ⟨rfl, A2.out.below⟩
    · skip
      by_cases c2 : left - (n0 : Int) - (n1 : Int) < (n2 : Int)
      · skip
        have hfin : sub left (n0 + n1 + n2) = -1 := by unfold sub; rw [if_pos (by omega)]
        rw [hfin]; clear hfin
        have s0 : sub (left) n0 = left - (n0 : Int) := by unfold sub; rw [if_neg (by omega)]
        have d0 : decide (left - (n0 : Int) < 0) = false := by simp; omega
        have g0 : 0 ≤ left - (n0 : Int) := by omega
        have S0 := Aside0.mk s0; clear s0
        have s1 : sub (left - (n0 : Int)) n1 = left - (n0 : Int) - (n1 : Int) := by unfold sub; rw [if_neg (by omega)]
        have d1 : decide (left - (n0 : Int) - (n1 : Int) < 0) = false := by simp; omega
        have g1 : 0 ≤ left - (n0 : Int) - (n1 : Int) := by omega
        have S1 := Aside0.mk s1; clear s1
        have s2 : sub (left - (n0 : Int) - (n1 : Int)) n2 = -1 := by unfold sub; rw [if_pos (by omega)]
        have S2 := Aside0.mk s2; clear s2
        go_enter Try.func114, Try.ntmps114
        go_wp2_with fail
        refine (szCapS _ _ _ (left) _ (A0.out.reads pG2.out) (by omega) (by omega)).mono ?_
        rintro e w1 ⟨rfl, hb0⟩
        rw [show sizeCapS x.caps = n0 from (by have := HN.out; omega), S0.out]
        have A1 := Aside0.mk (A0.out.step (hb0.below)); clear A0 hb0; have z0 := A1.out.cell0
        go_wp2_with fail
        refine (szInsS _ _ _ (left - (n0 : Int)) _ (A1.out.reads pG3.out) (by omega) (by omega)).mono ?_
        rintro e w2 ⟨rfl, hb0⟩
        rw [show sizeInsS x.code = n1 from (by have := HN.out; omega), S1.out]
        have A2 := Aside0.mk (A1.out.step (hb0.below)); clear A1 hb0 z0; have z0 := A2.out.cell0
        go_wp2_with fail
        refine (szHandlerS _ _ _ (left - (n0 : Int) - (n1 : Int)) _ (A2.out.reads pG4.out) (by omega) (by omega)).mono ?_
        rintro e w3 ⟨rfl, hb0⟩
        rw [show sizeHandlerS x.handlers = n2 from (by have := HN.out; omega), S2.out]
        have A3 := Aside0.mk (A2.out.step (hb0.below)); clear A2 hb0 z0; have z0 := A3.out.cell0
        go_wp2
        go_ret
        exact ⟨rfl, A3.out.below⟩
      · skip
        have hfin : sub left (n0 + n1 + n2) = left - n0 - n1 - n2 := by unfold sub; rw [if_neg (by omega)] <;> omega
        rw [hfin]; clear hfin
        have s0 : sub (left) n0 = left - (n0 : Int) := by unfold sub; rw [if_neg (by omega)]
        have d0 : decide (left - (n0 : Int) < 0) = false := by simp; omega
        have g0 : 0 ≤ left - (n0 : Int) := by omega
        have S0 := Aside0.mk s0; clear s0
        have s1 : sub (left - (n0 : Int)) n1 = left - (n0 : Int) - (n1 : Int) := by unfold sub; rw [if_neg (by omega)]
        have d1 : decide (left - (n0 : Int) - (n1 : Int) < 0) = false := by simp; omega
        have g1 : 0 ≤ left - (n0 : Int) - (n1 : Int) := by omega
        have S1 := Aside0.mk s1; clear s1
        have s2 : sub (left - (n0 : Int) - (n1 : Int)) n2 = left - (n0 : Int) - (n1 : Int) - (n2 : Int) := by unfold sub; rw [if_neg (by omega)]
        have d2 : decide (left - (n0 : Int) - (n1 : Int) - (n2 : Int) < 0) = false := by simp; omega
        have g2 : 0 ≤ left - (n0 : Int) - (n1 : Int) - (n2 : Int) := by omega
        have S2 := Aside0.mk s2; clear s2
        go_enter Try.func114, Try.ntmps114
        go_wp2_with fail
        refine (szCapS _ _ _ (left) _ (A0.out.reads pG2.out) (by omega) (by omega)).mono ?_
        rintro e w1 ⟨rfl, hb0⟩
        rw [show sizeCapS x.caps = n0 from (by have := HN.out; omega), S0.out]
        have A1 := Aside0.mk (A0.out.step (hb0.below)); clear A0 hb0; have z0 := A1.out.cell0
        go_wp2_with fail
        refine (szInsS _ _ _ (left - (n0 : Int)) _ (A1.out.reads pG3.out) (by omega) (by omega)).mono ?_
        rintro e w2 ⟨rfl, hb0⟩
        rw [show sizeInsS x.code = n1 from (by have := HN.out; omega), S1.out]
        have A2 := Aside0.mk (A1.out.step (hb0.below)); clear A1 hb0 z0; have z0 := A2.out.cell0
        go_wp2_with fail
        refine (szHandlerS _ _ _ (left - (n0 : Int) - (n1 : Int)) _ (A2.out.reads pG4.out) (by omega) (by omega)).mono ?_
        rintro e w3 ⟨rfl, hb0⟩
        rw [show sizeHandlerS x.handlers = n2 from (by have := HN.out; omega), S2.out]
        have A3 := Aside0.mk (A2.out.step (hb0.below)); clear A2 hb0 z0; have z0 := A3.out.cell0
        go_wp2
        go_ret
        exact ⟨rfl, A3.out.below⟩
def sizeConstS (l : List Const) : Nat := l.length + (l.map sizeConst).sum
theorem sizeConstS_take (l : List Const) (j : Nat) (h : j < l.length) : ((l.take (j + 1)).map sizeConst).sum = ((l.take j).map sizeConst).sum + sizeConst (el zConst l j) := by
  rw [List.take_succ_eq_append_getElem h, List.map_append, List.sum_append, el_lt zConst h]
  simp
theorem sizeConstS_le (l : List Const) (j : Nat) : ((l.take j).map sizeConst).sum ≤ (l.map sizeConst).sum := by
  have h : ((l.take j ++ l.drop j).map sizeConst).sum = (l.map sizeConst).sum := by rw [List.take_append_drop]
  rw [List.map_append, List.sum_append] at h
  omega
set_option maxHeartbeats 4000000 in
set_option maxRecDepth 100000 in
theorem szConstS (A : Option Addr) (c : Nat) (l : List Const) (left : Int) (w : World) (hr : kConst.C w A l.length l) (hgood : ∀ y ∈ l, GoodConst y) (h0 : 0 ≤ left) (h1 : left ≤ 1048576) :
    Calls Try.prog 85 #[.slice A l.length c, .int .i64 left] w fun e w' => e = .returned (.int .i64 (sub left (sizeConstS l))) ∧ Below w.heap.size w w' := by
  have hL : l.length ≤ 9223372036854775807 := hr.2.1
  have HR := Aside0.mk hr; have HG := Aside0.mk hgood; clear hr hgood
  by_cases h : left < (l.length : Int)
  · have hfin : sub left (sizeConstS l) = -1 := by unfold sub sizeConstS; rw [if_pos (by omega)]
    rw [hfin]; clear hfin
    have d1 : decide (left - (l.length : Int) < 0) = true := by simp; omega
    have d2 : decide (left < (l.length : Int)) = true := by simp; omega
    go_enter Try.func85, Try.ntmps85
    go_wp2
    go_ret
    exact ⟨rfl, Below.refl _ _⟩
  · have d1 : decide (left - (l.length : Int) < 0) = false := by simp; omega
    have d2 : decide (left < (l.length : Int)) = false := by simp; omega
    go_enter Try.func85, Try.ntmps85
    go_wp2
    go_loopw [1, 5] (fun u v wr => ∃ (j : Nat) (r : Int), v = .int .i64 j ∧ u = .int .i64 r ∧ j ≤ l.length ∧ 0 ≤ r ∧ r ≤ 1048576 ∧ Aside0 (r = left - (l.length : Int) - (((l.take j).map sizeConst).sum : Nat)) ∧ Aside0 (Below w.heap.size w wr)) (fun _ v _ => l.length - (intOf v).toNat)
    case atStart => exact ⟨0, left - (l.length : Int), rfl, rfl, by omega, by omega, by omega, ⟨by simp⟩, ⟨Below.refl _ _⟩⟩
    case round =>
      obtain ⟨j, r, rfl, rfl, hj, hr0, hr1, HE, HW⟩ := hrel
      by_cases hlt : j < l.length
      · obtain ⟨pa, rfl, pK, px0, px1, px2⟩ := Const_at (Kd.C_below HR.out HW.out) j hlt
        have pK2 := Aside0.mk pK; clear pK
        have HGj := Aside0.mk (HG.out _ (el_mem zConst hlt))
        have i1 : (0 : Int) ≤ (j : Int) := by omega
        have i2 : (j : Int) < (l.length : Int) := by omega
        have HT := Aside0.mk (sizeConstS_take l j hlt); have HM := Aside0.mk (sizeConstS_le l (j + 1))
        obtain ⟨m, hm⟩ : ∃ m, m = sizeConst (el zConst l j) := ⟨_, rfl⟩
        have HMM := Aside0.mk hm; clear hm
        by_cases c0 : r < (m : Int)
        · have s0 : sub r m = -1 := by unfold sub; rw [if_pos c0]
          have hfin : sub left (sizeConstS l) = -1 := by unfold sub sizeConstS; rw [if_pos (by have := HE.out; have := HT.out; have := HM.out; have := HMM.out; omega)]
          have HF := Aside0.mk hfin; clear hfin
          have S0 := Aside0.mk s0; clear s0
          go_wp2_with fail
          refine (szConst (el zConst l j) _ r _ pK2.out HGj.out hr0 hr1).mono ?_
          rintro e w1 ⟨rfl, hb⟩
          rw [← HMM.out, S0.out]
          go_wp2
          go_ret
          exact ⟨by rw [HF.out]; rfl, below_step HW.out hb⟩
        · have s0 : sub r m = r - m := by unfold sub; rw [if_neg c0]
          have d3 : decide (r - (m : Int) < 0) = false := by simp; omega
          have g3 : 0 ≤ r - (m : Int) := by omega
          have S0 := Aside0.mk s0; clear s0
          go_wp2_with fail
          refine (szConst (el zConst l j) _ r _ pK2.out HGj.out hr0 hr1).mono ?_
          rintro e w1 ⟨rfl, hb⟩
          rw [← HMM.out, S0.out]
          go_wp2
          go_roundw
          case rel => exact ⟨j + 1, r - (m : Int), by go_num, rfl, by omega, by omega, by omega, ⟨by have := HE.out; have := HT.out; have := HMM.out; omega⟩, ⟨below_step HW.out hb⟩⟩
          case measure => simp [intOf]; omega
      · have hjl : j = l.length := by omega
        have hfin : sub left (sizeConstS l) = r := by have h := HE.out; rw [hjl, List.take_length] at h; unfold sub sizeConstS; rw [if_neg (by omega)]; omega
        have HF := Aside0.mk hfin; clear hfin hjl
        go_wp2
        go_ret
        exact ⟨by rw [HF.out]; rfl, HW.out⟩
def sizeFuncS (l : List Func) : Nat := l.length + (l.map sizeFunc).sum
theorem sizeFuncS_take (l : List Func) (j : Nat) (h : j < l.length) : ((l.take (j + 1)).map sizeFunc).sum = ((l.take j).map sizeFunc).sum + sizeFunc (el zFunc l j) := by
  rw [List.take_succ_eq_append_getElem h, List.map_append, List.sum_append, el_lt zFunc h]
  simp
theorem sizeFuncS_le (l : List Func) (j : Nat) : ((l.take j).map sizeFunc).sum ≤ (l.map sizeFunc).sum := by
  have h : ((l.take j ++ l.drop j).map sizeFunc).sum = (l.map sizeFunc).sum := by rw [List.take_append_drop]
  rw [List.map_append, List.sum_append] at h
  omega
set_option maxHeartbeats 4000000 in
set_option maxRecDepth 100000 in
theorem szFuncS (A : Option Addr) (c : Nat) (l : List Func) (left : Int) (w : World) (hr : kFuncL.C w A l.length l) (hgood : ∀ y ∈ l, GoodFunc y) (h0 : 0 ≤ left) (h1 : left ≤ 1048576) :
    Calls Try.prog 84 #[.slice A l.length c, .int .i64 left] w fun e w' => e = .returned (.int .i64 (sub left (sizeFuncS l))) ∧ Below w.heap.size w w' := by
  have hL : l.length ≤ 9223372036854775807 := hr.2.1
  have HR := Aside0.mk hr; have HG := Aside0.mk hgood; clear hr hgood
  by_cases h : left < (l.length : Int)
  · have hfin : sub left (sizeFuncS l) = -1 := by unfold sub sizeFuncS; rw [if_pos (by omega)]
    rw [hfin]; clear hfin
    have d1 : decide (left - (l.length : Int) < 0) = true := by simp; omega
    have d2 : decide (left < (l.length : Int)) = true := by simp; omega
    go_enter Try.func84, Try.ntmps84
    go_wp2
    go_ret
    exact ⟨rfl, Below.refl _ _⟩
  · have d1 : decide (left - (l.length : Int) < 0) = false := by simp; omega
    have d2 : decide (left < (l.length : Int)) = false := by simp; omega
    go_enter Try.func84, Try.ntmps84
    go_wp2
    go_loopw [1, 5] (fun u v wr => ∃ (j : Nat) (r : Int), v = .int .i64 j ∧ u = .int .i64 r ∧ j ≤ l.length ∧ 0 ≤ r ∧ r ≤ 1048576 ∧ Aside0 (r = left - (l.length : Int) - (((l.take j).map sizeFunc).sum : Nat)) ∧ Aside0 (Below w.heap.size w wr)) (fun _ v _ => l.length - (intOf v).toNat)
    case atStart => exact ⟨0, left - (l.length : Int), rfl, rfl, by omega, by omega, by omega, ⟨by simp⟩, ⟨Below.refl _ _⟩⟩
    case round =>
      obtain ⟨j, r, rfl, rfl, hj, hr0, hr1, HE, HW⟩ := hrel
      by_cases hlt : j < l.length
      · obtain ⟨pa, pA2, pc2, pA3, pc3, pA4, pc4, rfl, pK, px0, px1, px2, px3, px4⟩ := FuncL_at (Kd.C_below HR.out HW.out) j hlt
        have pK2 := Aside0.mk pK; clear pK
        have HGj := Aside0.mk (HG.out _ (el_mem zFunc hlt))
        have i1 : (0 : Int) ≤ (j : Int) := by omega
        have i2 : (j : Int) < (l.length : Int) := by omega
        have HT := Aside0.mk (sizeFuncS_take l j hlt); have HM := Aside0.mk (sizeFuncS_le l (j + 1))
        obtain ⟨m, hm⟩ : ∃ m, m = sizeFunc (el zFunc l j) := ⟨_, rfl⟩
        have HMM := Aside0.mk hm; clear hm
        by_cases c0 : r < (m : Int)
        · have s0 : sub r m = -1 := by unfold sub; rw [if_pos c0]
          have hfin : sub left (sizeFuncS l) = -1 := by unfold sub sizeFuncS; rw [if_pos (by have := HE.out; have := HT.out; have := HM.out; have := HMM.out; omega)]
          have HF := Aside0.mk hfin; clear hfin
          have S0 := Aside0.mk s0; clear s0
          go_wp2_with fail
          refine (szFunc (el zFunc l j) _ r _ pK2.out HGj.out hr0 hr1).mono ?_
          rintro e w1 ⟨rfl, hb⟩
          rw [← HMM.out, S0.out]
          go_wp2
          go_ret
          exact ⟨by rw [HF.out]; rfl, below_step HW.out hb⟩
        · have s0 : sub r m = r - m := by unfold sub; rw [if_neg c0]
          have d3 : decide (r - (m : Int) < 0) = false := by simp; omega
          have g3 : 0 ≤ r - (m : Int) := by omega
          have S0 := Aside0.mk s0; clear s0
          go_wp2_with fail
          refine (szFunc (el zFunc l j) _ r _ pK2.out HGj.out hr0 hr1).mono ?_
          rintro e w1 ⟨rfl, hb⟩
          rw [← HMM.out, S0.out]
          go_wp2
          go_roundw
          case rel => exact ⟨j + 1, r - (m : Int), by go_num, rfl, by omega, by omega, by omega, ⟨by have := HE.out; have := HT.out; have := HMM.out; omega⟩, ⟨below_step HW.out hb⟩⟩
          case measure => simp [intOf]; omega
      · have hjl : j = l.length := by omega
        have hfin : sub left (sizeFuncS l) = r := by have h := HE.out; rw [hjl, List.take_length] at h; unfold sub sizeFuncS; rw [if_neg (by omega)]; omega
        have HF := Aside0.mk hfin; clear hfin hjl
        go_wp2
        go_ret
        exact ⟨by rw [HF.out]; rfl, HW.out⟩
def sizeImage (x : Image) : Nat := sizeFuncS x.funcs + sizeConstS x.consts
def GoodImage (x : Image) : Prop := (∀ y ∈ x.funcs, GoodFunc y) ∧ (∀ y ∈ x.consts, GoodConst y)
set_option maxHeartbeats 4000000 in
set_option maxRecDepth 100000 in
theorem szImage (x : Image) (cs : List Value) (left : Int) (w : World) (hk : kImageL.K w x cs) (hgood : GoodImage x) (h0 : 0 ≤ left) (h1 : left ≤ 1048576) :
    Calls Try.prog 47 #[.agg ⟨cs⟩, .int .i64 left] w fun e w' => e = .returned (.int .i64 (sub left (sizeImage x))) ∧ Below w.heap.size w w' := by
  obtain ⟨pA0, pc0, pA1, pc1, rfl, pl0, pg0, pl1, pg1⟩ := kImageL_open hk
  have pG0 := Aside0.mk pg0; clear pg0 pl0
  have pG1 := Aside0.mk pg1; clear pg1 pl1
  clear hk
  have hu := Try.underlying68
  unfold GoodImage at hgood
  have HG := Aside0.mk hgood
  have A0 := Aside0.mk ((At.start w).alloc #[.slice pA0 x.funcs.length pc0, .slice pA1 x.consts.length pc1] 68)
  obtain ⟨n0, hn0⟩ : ∃ q, q = sizeFuncS x.funcs := ⟨_, rfl⟩
  obtain ⟨n1, hn1⟩ : ∃ q, q = sizeConstS x.consts := ⟨_, rfl⟩
  have HN := Aside0.mk (show n0 = sizeFuncS x.funcs ∧ n1 = sizeConstS x.consts from ⟨hn0, hn1⟩)
  clear hn0
  clear hn1
  clear hgood
  have hsize : sizeImage x = n0 + n1 := by unfold sizeImage; have h := HN.out; omega
  rw [hsize]; have HSZ := Aside0.mk hsize; clear hsize
  by_cases c0 : left < (n0 : Int)
  · skip
    have hfin : sub left (n0 + n1) = -1 := by unfold sub; rw [if_pos (by omega)]
    rw [hfin]; clear hfin
    have s0 : sub (left) n0 = -1 := by unfold sub; rw [if_pos (by omega)]
    have S0 := Aside0.mk s0; clear s0
    go_enter Try.func47, Try.ntmps47
    go_wp2_with fail
    refine (szFuncS _ _ _ (left) _ (A0.out.reads pG0.out) (HG.out.1) (by omega) (by omega)).mono ?_
    rintro e w1 ⟨rfl, hb0⟩
    rw [show sizeFuncS x.funcs = n0 from (by have := HN.out; omega), S0.out]
    have A1 := Aside0.mk (A0.out.step (hb0)); clear A0 hb0; have z0 := A1.out.cell0
    go_wp2
    go_ret
    exact ⟨rfl, A1.out.below⟩
  · skip
    by_cases c1 : left - (n0 : Int) < (n1 : Int)
    · skip
      have hfin : sub left (n0 + n1) = -1 := by unfold sub; rw [if_pos (by omega)]
      rw [hfin]; clear hfin
      have s0 : sub (left) n0 = left - (n0 : Int) := by unfold sub; rw [if_neg (by omega)]
      have d0 : decide (left - (n0 : Int) < 0) = false := by simp; omega
      have g0 : 0 ≤ left - (n0 : Int) := by omega
      have S0 := Aside0.mk s0; clear s0
      have s1 : sub (left - (n0 : Int)) n1 = -1 := by unfold sub; rw [if_pos (by omega)]
      have S1 := Aside0.mk s1; clear s1
      go_enter Try.func47, Try.ntmps47
      go_wp2_with fail
      refine (szFuncS _ _ _ (left) _ (A0.out.reads pG0.out) (HG.out.1) (by omega) (by omega)).mono ?_
      rintro e w1 ⟨rfl, hb0⟩
      rw [show sizeFuncS x.funcs = n0 from (by have := HN.out; omega), S0.out]
      have A1 := Aside0.mk (A0.out.step (hb0)); clear A0 hb0; have z0 := A1.out.cell0
      go_wp2_with fail
      refine (szConstS _ _ _ (left - (n0 : Int)) _ (A1.out.reads pG1.out) (HG.out.2) (by omega) (by omega)).mono ?_
      rintro e w2 ⟨rfl, hb0⟩
      rw [show sizeConstS x.consts = n1 from (by have := HN.out; omega), S1.out]
      have A2 := Aside0.mk (A1.out.step (hb0)); clear A1 hb0 z0; have z0 := A2.out.cell0
      go_wp2
      go_ret
      exact ⟨rfl, A2.out.below⟩
    · skip
      have hfin : sub left (n0 + n1) = left - n0 - n1 := by unfold sub; rw [if_neg (by omega)] <;> omega
      rw [hfin]; clear hfin
      have s0 : sub (left) n0 = left - (n0 : Int) := by unfold sub; rw [if_neg (by omega)]
      have d0 : decide (left - (n0 : Int) < 0) = false := by simp; omega
      have g0 : 0 ≤ left - (n0 : Int) := by omega
      have S0 := Aside0.mk s0; clear s0
      have s1 : sub (left - (n0 : Int)) n1 = left - (n0 : Int) - (n1 : Int) := by unfold sub; rw [if_neg (by omega)]
      have d1 : decide (left - (n0 : Int) - (n1 : Int) < 0) = false := by simp; omega
      have g1 : 0 ≤ left - (n0 : Int) - (n1 : Int) := by omega
      have S1 := Aside0.mk s1; clear s1
      go_enter Try.func47, Try.ntmps47
      go_wp2_with fail
      refine (szFuncS _ _ _ (left) _ (A0.out.reads pG0.out) (HG.out.1) (by omega) (by omega)).mono ?_
      rintro e w1 ⟨rfl, hb0⟩
      rw [show sizeFuncS x.funcs = n0 from (by have := HN.out; omega), S0.out]
      have A1 := Aside0.mk (A0.out.step (hb0)); clear A0 hb0; have z0 := A1.out.cell0
      go_wp2_with fail
      refine (szConstS _ _ _ (left - (n0 : Int)) _ (A1.out.reads pG1.out) (HG.out.2) (by omega) (by omega)).mono ?_
      rintro e w2 ⟨rfl, hb0⟩
      rw [show sizeConstS x.consts = n1 from (by have := HN.out; omega), S1.out]
      have A2 := Aside0.mk (A1.out.step (hb0)); clear A1 hb0 z0; have z0 := A2.out.cell0
      go_wp2
      go_ret
      exact ⟨rfl, A2.out.below⟩
end Go.Proofs.Ytdgjbpefbkgnpaa
