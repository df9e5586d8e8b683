/- Part 22 of the proof: general lemmas, contracts of functions, walks. No condition of its own. -/
import Derived.WalkKit
import Derived.KernelRfl
import Derived.Deep.LoopGhost
import Derived.Deep.QuietTactic
import Derived.BigQuiet
import Derived.RowKit3
import Derived.Deep.RegionWith
import Derived.Deep.RegionHeld3
import Derived.WalkLawsBesides
import Derived.IntWalk
import Derived.Deep.DeepCutAuto
import Derived.ProofKit
import Derived.OpenShut
import Derived.ChangeOld
import Derived.ChangeShapes
import Derived.WideShapes
import Derived.ChangeArms
import Derived.DataReads
import Derived.DataElems
import Derived.Test.YtcbaokflimdjnaaSts11
import Derived.Test.YtcbaokflimdjnaaSts2
import Derived.Test.YtcbaokflimdjnaaSts21
import Derived.Test.YtcbaokflimdjnaaSts17
import Derived.Test.YtcbaokflimdjnaaSts5
import Derived.Test.YtcbaokflimdjnaaSts7
import Derived.Test.YtcbaokflimdjnaaSts13
import Derived.Test.YtcbaokflimdjnaaSts1
section
namespace Go.Proofs.Ytcbaokflimdjnaa
open Go.RowKit Go.Proofs.YtcbaokflimdjnaaW.PrintWords Go.Proofs.YtcbaokflimdjnaaW.PrintMore Go.Proofs.Ytcbaokflimdjnaa.Law Go.Proofs.Ytcbaokflimdjnaa.Num
set_option linter.unusedVariables false
set_option linter.unusedSimpArgs false
set_option maxHeartbeats 4000000 in
set_option maxRecDepth 100000 in
theorem eqFunc (x y : Func) (cs ds : List Value) (w : World) (hk : kFuncI.K w x cs) (hk2 : kFuncI.K w y ds) :
    Calls Try.prog 104 #[.agg ⟨cs⟩, .agg ⟨ds⟩] w fun e w' => e = .returned (.bool (decide (x = y))) ∧ Below w.heap.size w w' := by
  obtain ⟨pA2, pc2, pA3, pc3, pA4, pc4, rfl, pl2, pg2, pl3, pg3, pl4, pg4⟩ := kFuncI_open hk
  have pG2 := Aside0.mk pg2; have pL2 := Aside0.mk pl2; clear pg2 pl2
  have pG3 := Aside0.mk pg3; have pL3 := Aside0.mk pl3; clear pg3 pl3
  have pG4 := Aside0.mk pg4; have pL4 := Aside0.mk pl4; clear pg4 pl4
  obtain ⟨qA2, qc2, qA3, qc3, qA4, qc4, rfl, ql2, qg2, ql3, qg3, ql4, qg4⟩ := kFuncI_open hk2
  have qG2 := Aside0.mk qg2; have qL2 := Aside0.mk ql2; clear qg2 ql2
  have qG3 := Aside0.mk qg3; have qL3 := Aside0.mk ql3; clear qg3 ql3
  have qG4 := Aside0.mk qg4; have qL4 := Aside0.mk ql4; clear qg4 ql4
  clear hk hk2
  have hu := Try.underlying73
  have A0 := Aside0.mk (((At.start w).alloc #[.int .i64 x.params, .int .i64 x.regs, .slice pA2 x.caps.length pc2, .slice pA3 x.code.length pc3, .slice pA4 x.handlers.length pc4] 73).alloc #[.int .i64 y.params, .int .i64 y.regs, .slice qA2 y.caps.length qc2, .slice qA3 y.code.length qc3, .slice qA4 y.handlers.length qc4] 73)
  rw [show (w.alloc (.cells #[.int .i64 x.params, .int .i64 x.regs, .slice pA2 x.caps.length pc2, .slice pA3 x.code.length pc3, .slice pA4 x.handlers.length pc4] 73)).heap.size = w.heap.size + 1 by simp] at A0
  by_cases h0 : x.params = y.params
  · skip
    have b0 : (x.params == y.params) = true := beq_iff_eq.mpr h0
    have d0 : (x.params != y.params) = false := bne_eq_false_iff_eq.mpr h0
    by_cases h1 : x.regs = y.regs
    · skip
      have b1 : (x.regs == y.regs) = true := beq_iff_eq.mpr h1
      have d1 : (x.regs != y.regs) = false := bne_eq_false_iff_eq.mpr h1
      by_cases h2 : x.caps = y.caps
      · skip
        have d2 : decide (x.caps = y.caps) = true := decide_eq_true h2
        by_cases h3 : x.code = y.code
        · skip
          have d3 : decide (x.code = y.code) = true := decide_eq_true h3
          by_cases h4 : x.handlers = y.handlers
          · skip
            have d4 : decide (x.handlers = y.handlers) = true := decide_eq_true h4
            have hfin : decide (x = y) = true := decide_eq_true (by cases x; cases y; simp_all)
            have HF := Aside0.mk hfin
            clear hfin
            clear h0
            clear h1
            clear h2
            clear h3
            clear h4
            go_enter Try.func104, Try.ntmps104
            go_wp2_with fail
            refine (eqCapS _ _ _ _ _ _ _ (A0.out.reads pG2.out) (A0.out.reads qG2.out)).mono ?_
            rintro e w1 ⟨rfl, hb0⟩
            have hb := hb0
            have A1 := Aside0.mk (A0.out.step hb)
            clear hb hb0 A0
            have z0 := A1.out.cell1; have z1 := A1.out.cell0
            go_wp2_with fail
            refine (eqInsS _ _ _ _ _ _ _ (A1.out.reads pG3.out) (A1.out.reads qG3.out)).mono ?_
            rintro e w2 ⟨rfl, hb0⟩
            have hb := hb0
            have A2 := Aside0.mk (A1.out.step hb)
            clear hb hb0 A1 z0 z1
            have z0 := A2.out.cell1; have z1 := A2.out.cell0
            go_wp2_with fail
            refine (eqHandlerS _ _ _ _ _ _ _ (A2.out.reads pG4.out) (A2.out.reads qG4.out)).mono ?_
            rintro e w3 ⟨rfl, hb0⟩
            have hb := hb0
            have A3 := Aside0.mk (A2.out.step hb)
            clear hb hb0 A2 z0 z1
            have z0 := A3.out.cell1; have z1 := A3.out.cell0
            go_wp2
            go_ret
            exact ⟨by rw [HF.out]; rfl, A3.out.below⟩
          · skip
            have d4 : decide (x.handlers = y.handlers) = false := decide_eq_false h4
            have hfin : decide (x = y) = false := decide_eq_false (fun e => h4 (by rw [e]))
            have HF := Aside0.mk hfin
            clear hfin
            clear h0
            clear h1
            clear h2
            clear h3
            clear h4
            go_enter Try.func104, Try.ntmps104
            go_wp2_with fail
            refine (eqCapS _ _ _ _ _ _ _ (A0.out.reads pG2.out) (A0.out.reads qG2.out)).mono ?_
            rintro e w1 ⟨rfl, hb0⟩
            have hb := hb0
            have A1 := Aside0.mk (A0.out.step hb)
            clear hb hb0 A0
            have z0 := A1.out.cell1; have z1 := A1.out.cell0
            go_wp2_with fail
            refine (eqInsS _ _ _ _ _ _ _ (A1.out.reads pG3.out) (A1.out.reads qG3.out)).mono ?_
            rintro e w2 ⟨rfl, hb0⟩
            have hb := hb0
            have A2 := Aside0.mk (A1.out.step hb)
            clear hb hb0 A1 z0 z1
            have z0 := A2.out.cell1; have z1 := A2.out.cell0
            go_wp2_with fail
            refine (eqHandlerS _ _ _ _ _ _ _ (A2.out.reads pG4.out) (A2.out.reads qG4.out)).mono ?_
            rintro e w3 ⟨rfl, hb0⟩
            have hb := hb0
            have A3 := Aside0.mk (A2.out.step hb)
            clear hb hb0 A2 z0 z1
            have z0 := A3.out.cell1; have z1 := A3.out.cell0
            go_wp2
            go_ret
            exact ⟨by rw [HF.out]; rfl, A3.out.below⟩
        · skip
          have d3 : decide (x.code = y.code) = false := decide_eq_false h3
          have hfin : decide (x = y) = false := decide_eq_false (fun e => h3 (by rw [e]))
          have HF := Aside0.mk hfin
          clear hfin
          clear h0
          clear h1
          clear h2
          clear h3
          go_enter Try.func104, Try.ntmps104
          go_wp2_with fail
          refine (eqCapS _ _ _ _ _ _ _ (A0.out.reads pG2.out) (A0.out.reads qG2.out)).mono ?_
          rintro e w1 ⟨rfl, hb0⟩
          have hb := hb0
          have A1 := Aside0.mk (A0.out.step hb)
          clear hb hb0 A0
          have z0 := A1.out.cell1; have z1 := A1.out.cell0
          go_wp2_with fail
          refine (eqInsS _ _ _ _ _ _ _ (A1.out.reads pG3.out) (A1.out.reads qG3.out)).mono ?_
          rintro e w2 ⟨rfl, hb0⟩
          have hb := hb0
          have A2 := Aside0.mk (A1.out.step hb)
          clear hb hb0 A1 z0 z1
          have z0 := A2.out.cell1; have z1 := A2.out.cell0
          go_wp2
          go_ret
          exact ⟨by rw [HF.out]; rfl, A2.out.below⟩
      · skip
        have d2 : decide (x.caps = y.caps) = false := decide_eq_false h2
        have hfin : decide (x = y) = false := decide_eq_false (fun e => h2 (by rw [e]))
        have HF := Aside0.mk hfin
        clear hfin
        clear h0
        clear h1
        clear h2
        go_enter Try.func104, Try.ntmps104
        go_wp2_with fail
        refine (eqCapS _ _ _ _ _ _ _ (A0.out.reads pG2.out) (A0.out.reads qG2.out)).mono ?_
        rintro e w1 ⟨rfl, hb0⟩
        have hb := hb0
        have A1 := Aside0.mk (A0.out.step hb)
        clear hb hb0 A0
        have z0 := A1.out.cell1; have z1 := A1.out.cell0
        go_wp2
        go_ret
        exact ⟨by rw [HF.out]; rfl, A1.out.below⟩
    · skip
      have b1 : (x.regs == y.regs) = false := beq_eq_false_iff_ne.mpr h1
      have d1 : (x.regs != y.regs) = true := bne_iff_ne.mpr h1
      have hfin : decide (x = y) = false := decide_eq_false (fun e => h1 (by rw [e]))
      have HF := Aside0.mk hfin
      clear hfin
      clear h0
      clear h1
      go_enter Try.func104, Try.ntmps104
      go_wp2
      go_ret
      exact ⟨by rw [HF.out]; rfl, by repeat (first | exact Below.refl _ _ | apply below_alloc | apply below_drew1 | apply pw_below_drewN | assumption)⟩
  · skip
    have b0 : (x.params == y.params) = false := beq_eq_false_iff_ne.mpr h0
    have d0 : (x.params != y.params) = true := bne_iff_ne.mpr h0
    have hfin : decide (x = y) = false := decide_eq_false (fun e => h0 (by rw [e]))
    have HF := Aside0.mk hfin
    clear hfin
    clear h0
    go_enter Try.func104, Try.ntmps104
    go_wp2
    go_ret
    exact ⟨by rw [HF.out]; rfl, by repeat (first | exact Below.refl _ _ | apply below_alloc | apply below_drew1 | apply pw_below_drewN | assumption)⟩
set_option maxHeartbeats 4000000 in
set_option maxRecDepth 100000 in
theorem eqFuncS (A B : Option Addr) (c d : Nat) (l m : List Func) (w : World) (hr : kFuncI.C w A l.length l) (hr2 : kFuncI.C w B m.length m) :
    Calls Try.prog 62 #[.slice A l.length c, .slice B m.length d] w fun e w' => e = .returned (.bool (decide (l = m))) ∧ Below w.heap.size w w' := by
  have hL : l.length ≤ 9223372036854775807 := hr.2.1
  by_cases hlen : l.length = m.length
  · have b1 : ((l.length : Int) != (m.length : Int)) = false := by simp [hlen]
    have HR := Aside0.mk hr; have HR2 := Aside0.mk hr2; have HL := Aside0.mk hlen
    clear hr hr2 hlen
    go_enter Try.func62, Try.ntmps62
    go_wp2
    go_loopw [5] (fun v wr => ∃ j : Nat, v = .int .i64 j ∧ j ≤ l.length ∧ Aside0 (∀ i : Nat, i < j → el zFunc l i = el zFunc m i) ∧ Aside0 (Below w.heap.size w wr)) (fun v _ => l.length - (intOf v).toNat)
    case atStart => exact ⟨0, rfl, by omega, ⟨fun i hi => by omega⟩, ⟨Below.refl _ _⟩⟩
    case round =>
      obtain ⟨j, rfl, hj, HE, HW⟩ := hrel
      by_cases hlt : j < l.length
      · obtain ⟨pa, pA2, pc2, pA3, pc3, pA4, pc4, rfl, pK, px0, px1, px2, px3, px4⟩ := FuncI_at (Kd.C_below HR.out HW.out) j hlt
        have pK2 := Aside0.mk pK; clear pK
        obtain ⟨qa, qA2, qc2, qA3, qc3, qA4, qc4, rfl, qK, qx0, qx1, qx2, qx3, qx4⟩ := FuncI_at (Kd.C_below HR2.out HW.out) j (by have := HL.out; omega)
        have qK2 := Aside0.mk qK; clear qK
        have i1 : (0 : Int) ≤ (j : Int) := by omega
        have i2 : (j : Int) < (l.length : Int) := by omega
        have i3 : (j : Int) < (m.length : Int) := by have := HL.out; omega
        by_cases he : el zFunc l j = el zFunc m j
        · have b2 : decide (el zFunc l j = el zFunc m j) = true := decide_eq_true he
          have HE2 := Aside0.mk he
          clear he
          go_wp2
          have HS : Aside0 (∀ W : World, Below wr.heap.size wr W → W.cell? (pa.add (j * 5)) = some (.int .i64 (el zFunc l j).params) ∧ W.cell? ⟨(pa.add (j * 5)).block, (pa.add (j * 5)).off + 1, none⟩ = some (.int .i64 (el zFunc l j).regs) ∧ W.cell? ⟨(pa.add (j * 5)).block, (pa.add (j * 5)).off + 2, none⟩ = some (.slice pA2 (el zFunc l j).caps.length pc2) ∧ W.cell? ⟨(pa.add (j * 5)).block, (pa.add (j * 5)).off + 3, none⟩ = some (.slice pA3 (el zFunc l j).code.length pc3) ∧ W.cell? ⟨(pa.add (j * 5)).block, (pa.add (j * 5)).off + 4, none⟩ = some (.slice pA4 (el zFunc l j).handlers.length pc4) ∧ W.cell? (qa.add (j * 5)) = some (.int .i64 (el zFunc m j).params) ∧ W.cell? ⟨(qa.add (j * 5)).block, (qa.add (j * 5)).off + 1, none⟩ = some (.int .i64 (el zFunc m j).regs) ∧ W.cell? ⟨(qa.add (j * 5)).block, (qa.add (j * 5)).off + 2, none⟩ = some (.slice qA2 (el zFunc m j).caps.length qc2) ∧ W.cell? ⟨(qa.add (j * 5)).block, (qa.add (j * 5)).off + 3, none⟩ = some (.slice qA3 (el zFunc m j).code.length qc3) ∧ W.cell? ⟨(qa.add (j * 5)).block, (qa.add (j * 5)).off + 4, none⟩ = some (.slice qA4 (el zFunc m j).handlers.length qc4)) := ⟨fun W hB => ⟨pw_cell_below hB px0, pw_cell_below hB px1, pw_cell_below hB px2, pw_cell_below hB px3, pw_cell_below hB px4, pw_cell_below hB qx0, pw_cell_below hB qx1, pw_cell_below hB qx2, pw_cell_below hB qx3, pw_cell_below hB qx4⟩⟩
          go_region_held3 (fun W => W.cell? (pa.add (j * 5)) = some (.int .i64 (el zFunc l j).params) ∧ W.cell? ⟨(pa.add (j * 5)).block, (pa.add (j * 5)).off + 1, none⟩ = some (.int .i64 (el zFunc l j).regs) ∧ W.cell? ⟨(pa.add (j * 5)).block, (pa.add (j * 5)).off + 2, none⟩ = some (.slice pA2 (el zFunc l j).caps.length pc2) ∧ W.cell? ⟨(pa.add (j * 5)).block, (pa.add (j * 5)).off + 3, none⟩ = some (.slice pA3 (el zFunc l j).code.length pc3) ∧ W.cell? ⟨(pa.add (j * 5)).block, (pa.add (j * 5)).off + 4, none⟩ = some (.slice pA4 (el zFunc l j).handlers.length pc4) ∧ W.cell? (qa.add (j * 5)) = some (.int .i64 (el zFunc m j).params) ∧ W.cell? ⟨(qa.add (j * 5)).block, (qa.add (j * 5)).off + 1, none⟩ = some (.int .i64 (el zFunc m j).regs) ∧ W.cell? ⟨(qa.add (j * 5)).block, (qa.add (j * 5)).off + 2, none⟩ = some (.slice qA2 (el zFunc m j).caps.length qc2) ∧ W.cell? ⟨(qa.add (j * 5)).block, (qa.add (j * 5)).off + 3, none⟩ = some (.slice qA3 (el zFunc m j).code.length qc3) ∧ W.cell? ⟨(qa.add (j * 5)).block, (qa.add (j * 5)).off + 4, none⟩ = some (.slice qA4 (el zFunc m j).handlers.length qc4)) (first | exact HS.out _ (below_step (below_drew1 (Below.refl _ _)) hb) | exact HS.out _ (below_drew1 (Below.refl _ _))) (first | (go_at_call 104; refine (eqFunc (el zFunc l j) (el zFunc m j) _ _ _ ?s1 ?s2).mono ?_; (case s1 => exact Kd.K_drew0 pK2.out); (case s2 => exact Kd.K_drew0 qK2.out); rintro e w1 ⟨rfl, hb⟩))
          go_wp2
          go_roundw
          case rel => exact ⟨j + 1, by go_num, by omega, ⟨fun i hi => by rcases Nat.lt_succ_iff_lt_or_eq.1 hi with h | h; exact HE.out i h; rw [h]; exact HE2.out⟩, ⟨below_step (below_drew1 HW.out) hb⟩⟩
          case measure => simp [intOf]; omega
        · have b2 : decide (el zFunc l j = el zFunc m j) = false := decide_eq_false he
          have HE2 := Aside0.mk he
          clear he
          go_wp2
          have HS : Aside0 (∀ W : World, Below wr.heap.size wr W → W.cell? (pa.add (j * 5)) = some (.int .i64 (el zFunc l j).params) ∧ W.cell? ⟨(pa.add (j * 5)).block, (pa.add (j * 5)).off + 1, none⟩ = some (.int .i64 (el zFunc l j).regs) ∧ W.cell? ⟨(pa.add (j * 5)).block, (pa.add (j * 5)).off + 2, none⟩ = some (.slice pA2 (el zFunc l j).caps.length pc2) ∧ W.cell? ⟨(pa.add (j * 5)).block, (pa.add (j * 5)).off + 3, none⟩ = some (.slice pA3 (el zFunc l j).code.length pc3) ∧ W.cell? ⟨(pa.add (j * 5)).block, (pa.add (j * 5)).off + 4, none⟩ = some (.slice pA4 (el zFunc l j).handlers.length pc4) ∧ W.cell? (qa.add (j * 5)) = some (.int .i64 (el zFunc m j).params) ∧ W.cell? ⟨(qa.add (j * 5)).block, (qa.add (j * 5)).off + 1, none⟩ = some (.int .i64 (el zFunc m j).regs) ∧ W.cell? ⟨(qa.add (j * 5)).block, (qa.add (j * 5)).off + 2, none⟩ = some (.slice qA2 (el zFunc m j).caps.length qc2) ∧ W.cell? ⟨(qa.add (j * 5)).block, (qa.add (j * 5)).off + 3, none⟩ = some (.slice qA3 (el zFunc m j).code.length qc3) ∧ W.cell? ⟨(qa.add (j * 5)).block, (qa.add (j * 5)).off + 4, none⟩ = some (.slice qA4 (el zFunc m j).handlers.length qc4)) := ⟨fun W hB => ⟨pw_cell_below hB px0, pw_cell_below hB px1, pw_cell_below hB px2, pw_cell_below hB px3, pw_cell_below hB px4, pw_cell_below hB qx0, pw_cell_below hB qx1, pw_cell_below hB qx2, pw_cell_below hB qx3, pw_cell_below hB qx4⟩⟩
          go_region_held3 (fun W => W.cell? (pa.add (j * 5)) = some (.int .i64 (el zFunc l j).params) ∧ W.cell? ⟨(pa.add (j * 5)).block, (pa.add (j * 5)).off + 1, none⟩ = some (.int .i64 (el zFunc l j).regs) ∧ W.cell? ⟨(pa.add (j * 5)).block, (pa.add (j * 5)).off + 2, none⟩ = some (.slice pA2 (el zFunc l j).caps.length pc2) ∧ W.cell? ⟨(pa.add (j * 5)).block, (pa.add (j * 5)).off + 3, none⟩ = some (.slice pA3 (el zFunc l j).code.length pc3) ∧ W.cell? ⟨(pa.add (j * 5)).block, (pa.add (j * 5)).off + 4, none⟩ = some (.slice pA4 (el zFunc l j).handlers.length pc4) ∧ W.cell? (qa.add (j * 5)) = some (.int .i64 (el zFunc m j).params) ∧ W.cell? ⟨(qa.add (j * 5)).block, (qa.add (j * 5)).off + 1, none⟩ = some (.int .i64 (el zFunc m j).regs) ∧ W.cell? ⟨(qa.add (j * 5)).block, (qa.add (j * 5)).off + 2, none⟩ = some (.slice qA2 (el zFunc m j).caps.length qc2) ∧ W.cell? ⟨(qa.add (j * 5)).block, (qa.add (j * 5)).off + 3, none⟩ = some (.slice qA3 (el zFunc m j).code.length qc3) ∧ W.cell? ⟨(qa.add (j * 5)).block, (qa.add (j * 5)).off + 4, none⟩ = some (.slice qA4 (el zFunc m j).handlers.length qc4)) (first | exact HS.out _ (below_step (below_drew1 (Below.refl _ _)) hb) | exact HS.out _ (below_drew1 (Below.refl _ _))) (first | (go_at_call 104; refine (eqFunc (el zFunc l j) (el zFunc m j) _ _ _ ?s1 ?s2).mono ?_; (case s1 => exact Kd.K_drew0 pK2.out); (case s2 => exact Kd.K_drew0 qK2.out); rintro e w1 ⟨rfl, hb⟩))
          go_wp2
          go_ret
          exact ⟨by rw [decide_eq_false (fun h => HE2.out (by rw [h]))]; rfl, below_step (below_drew1 HW.out) hb⟩
      · go_wp2
        go_ret
        exact ⟨by rw [decide_eq_true (el_ext zFunc HL.out (fun i hi => HE.out i (by omega)))]; rfl, HW.out⟩
  · have b1 : ((l.length : Int) != (m.length : Int)) = true := by simp; omega
    have HL := Aside0.mk hlen
    clear hr hr2 hlen
    go_enter Try.func62, Try.ntmps62
    go_wp2
    go_ret
    exact ⟨by rw [decide_eq_false (fun h => HL.out (by rw [h]))]; rfl, Below.refl _ _⟩
set_option maxHeartbeats 4000000 in
set_option maxRecDepth 100000 in
theorem eqImage (x y : Image) (cs ds : List Value) (w : World) (hk : kImageI.K w x cs) (hk2 : kImageI.K w y ds) :
    Calls Try.prog 19 #[.agg ⟨cs⟩, .agg ⟨ds⟩] w fun e w' => e = .returned (.bool (decide (x = y))) ∧ Below w.heap.size w w' := by
  obtain ⟨pA0, pc0, pA1, pc1, rfl, pl0, pg0, pl1, pg1⟩ := kImageI_open hk
  have pG0 := Aside0.mk pg0; have pL0 := Aside0.mk pl0; clear pg0 pl0
  have pG1 := Aside0.mk pg1; have pL1 := Aside0.mk pl1; clear pg1 pl1
  obtain ⟨qA0, qc0, qA1, qc1, rfl, ql0, qg0, ql1, qg1⟩ := kImageI_open hk2
  have qG0 := Aside0.mk qg0; have qL0 := Aside0.mk ql0; clear qg0 ql0
  have qG1 := Aside0.mk qg1; have qL1 := Aside0.mk ql1; clear qg1 ql1
  clear hk hk2
  have hu := Try.underlying37
  have A0 := Aside0.mk (((At.start w).alloc #[.slice pA0 x.funcs.length pc0, .slice pA1 x.consts.length pc1] 37).alloc #[.slice qA0 y.funcs.length qc0, .slice qA1 y.consts.length qc1] 37)
  rw [show (w.alloc (.cells #[.slice pA0 x.funcs.length pc0, .slice pA1 x.consts.length pc1] 37)).heap.size = w.heap.size + 1 by simp] at A0
  by_cases h0 : x.funcs = y.funcs
  · skip
    have d0 : decide (x.funcs = y.funcs) = true := decide_eq_true h0
    by_cases h1 : x.consts = y.consts
    · skip
      have d1 : decide (x.consts = y.consts) = true := decide_eq_true h1
      have hfin : decide (x = y) = true := decide_eq_true (by cases x; cases y; simp_all)
      have HF := Aside0.mk hfin
      clear hfin
      clear h0
      clear h1
      go_enter Try.func19, Try.ntmps19
      go_wp2_with fail
      refine (eqFuncS _ _ _ _ _ _ _ (A0.out.reads pG0.out) (A0.out.reads qG0.out)).mono ?_
      rintro e w1 ⟨rfl, hb0⟩
      have hb := hb0
      have A1 := Aside0.mk (A0.out.step hb)
      clear hb hb0 A0
      have z0 := A1.out.cell1; have z1 := A1.out.cell0
      go_wp2_with fail
      refine (eqConstS _ _ _ _ _ _ _ (A1.out.reads pG1.out) (A1.out.reads qG1.out)).mono ?_
      rintro e w2 ⟨rfl, hb0⟩
      have hb := hb0
      have A2 := Aside0.mk (A1.out.step hb)
      clear hb hb0 A1 z0 z1
      have z0 := A2.out.cell1; have z1 := A2.out.cell0
      go_wp2
      go_ret
      exact ⟨by rw [HF.out]; rfl, A2.out.below⟩
    · skip
      have d1 : decide (x.consts = y.consts) = false := decide_eq_false h1
      have hfin : decide (x = y) = false := decide_eq_false (fun e => h1 (by rw [e]))
      have HF := Aside0.mk hfin
      clear hfin
      clear h0
      clear h1
      go_enter Try.func19, Try.ntmps19
      go_wp2_with fail
      refine (eqFuncS _ _ _ _ _ _ _ (A0.out.reads pG0.out) (A0.out.reads qG0.out)).mono ?_
      rintro e w1 ⟨rfl, hb0⟩
      have hb := hb0
      have A1 := Aside0.mk (A0.out.step hb)
      clear hb hb0 A0
      have z0 := A1.out.cell1; have z1 := A1.out.cell0
      go_wp2_with fail
      refine (eqConstS _ _ _ _ _ _ _ (A1.out.reads pG1.out) (A1.out.reads qG1.out)).mono ?_
      rintro e w2 ⟨rfl, hb0⟩
      have hb := hb0
      have A2 := Aside0.mk (A1.out.step hb)
      clear hb hb0 A1 z0 z1
      have z0 := A2.out.cell1; have z1 := A2.out.cell0
      go_wp2
      go_ret
      exact ⟨by rw [HF.out]; rfl, A2.out.below⟩
  · skip
    have d0 : decide (x.funcs = y.funcs) = false := decide_eq_false h0
    have hfin : decide (x = y) = false := decide_eq_false (fun e => h0 (by rw [e]))
    have HF := Aside0.mk hfin
    clear hfin
    clear h0
    go_enter Try.func19, Try.ntmps19
    go_wp2_with fail
    refine (eqFuncS _ _ _ _ _ _ _ (A0.out.reads pG0.out) (A0.out.reads qG0.out)).mono ?_
    rintro e w1 ⟨rfl, hb0⟩
    have hb := hb0
    have A1 := Aside0.mk (A0.out.step hb)
    clear hb hb0 A0
    have z0 := A1.out.cell1; have z1 := A1.out.cell0
    go_wp2
    go_ret
    exact ⟨by rw [HF.out]; rfl, A1.out.below⟩
end Go.Proofs.Ytcbaokflimdjnaa
end
section
namespace Go.Proofs.Ytcbaokflimdjnaa
open Go.RowKit Go.Proofs.YtcbaokflimdjnaaW.PrintWords Go.Proofs.YtcbaokflimdjnaaW.PrintMore Go.Proofs.Ytcbaokflimdjnaa.Law Go.Proofs.Ytcbaokflimdjnaa.Num
set_option linter.unusedVariables false
set_option linter.unusedSimpArgs false
set_option autoImplicit false
set_option maxHeartbeats 4000000 in
set_option maxRecDepth 100000 in
theorem toFuncSA (A : Option Addr) (c : Nat) (l : List Func) (w : World) (hr : kFuncL.C w A l.length l) (hlen : l.length ≤ 1048576) (hl : ∀ y ∈ l, LenFunc y) :
    Calls Try.prog 56 #[.slice A l.length c] w fun e w' => ∃ v, e = .returned v ∧ Kd.S kFuncI 73 w' w.heap.size (fun _ => True) v l ∧ Below w.heap.size w w' := by
  have HR := Aside0.mk hr; clear hr
  have HL := Aside0.mk hl; clear hl
  have HB := Aside0.mk (Below.refl w.heap.size w)
  have hu := Try.underlying129; have hu2 := Try.underlying73
  go_enter Try.func56, Try.ntmps56
  go_wp2_with (refine Kd.S_make kFuncI _ 73 rfl (N := _) rfl _ _ _ rfl (l.length : Int) rfl rfl Try.underlying34 (.agg #[.int .i64 0, .int .i64 0, .slice none 0 0, .slice none 0 0, .slice none 0 0]) 88 (by kernel_rfl) rfl (by decide) (by omega) zFunc (ok := fun _ => True) (okp := fun _ => True) (kFuncI_mkM _ _ _ zFunc (Kd.R_nil _ _ _ _ _) (Kd.R_nil _ _ _ _ _) (Kd.R_nil _ _ _ _ _)) (fun _ hk => hk) trivial (by omega) (by omega) (Below.refl _ _) (Nat.le_refl _) ?_; intro v1 w1 ho hb hg_ hnew_; clear hg_ hnew_ HB; have HO := Aside0.mk ho; have HB := Aside0.mk hb; clear ho hb)
  go_loopw [4] (fun v wr => ∃ (j : Nat) (xs : List Func), v = .int .i64 j ∧ j ≤ l.length ∧ xs.length = l.length ∧ Aside0 (∀ i : Nat, i < j → el zFunc xs i = el zFunc l i) ∧ Aside0 (Kd.S kFuncI 73 wr w.heap.size (fun _ => True) v1 xs) ∧ Aside0 (Below w.heap.size w wr)) (fun v _ => l.length - (intOf v).toNat)
  case atStart => exact ⟨0, _, rfl, by omega, by simp, ⟨fun i hi => by omega⟩, HO, HB⟩
  case round =>
    clear HO HB
    obtain ⟨j, xs, rfl, hj, hn, HE, HO, HB⟩ := hrel
    by_cases hlt : j < l.length
    · obtain ⟨a, qA2, qc2, qA3, qc3, qA4, qc4, rfl, hk, x0, x1, x2, x3, x4⟩ := FuncL_at HR.out j hlt
      replace x0 := (HB.out.cell (World.block_lt_of_cell? w _ x0)).trans x0
      replace x1 := (HB.out.cell (World.block_lt_of_cell? w _ x1)).trans x1
      replace x2 := (HB.out.cell (World.block_lt_of_cell? w _ x2)).trans x2
      replace x3 := (HB.out.cell (World.block_lt_of_cell? w _ x3)).trans x3
      replace x4 := (HB.out.cell (World.block_lt_of_cell? w _ x4)).trans x4
      have HK := Aside0.mk hk; clear hk
      have hb2 : (j : Int) < (l.length : Int) := by omega
      go_wp2_with fail
      refine (toFunc _ _ _ (kFuncL.K_below HB.out HK.out) (HL.out _ (el_mem zFunc hlt))).mono ?_
      rintro e w2 ⟨ds, rfl, hm, hb⟩
      have hbx := hb; have HO2 := Aside0.mk (Kd.S_below (Kd.S_mono (ok' := fun k => True ∧ ¬ wr.heap.size ≤ k) (Kd.S_bound HO.out) (fun k hk => ⟨trivial, by have := hk.2.2.1; omega⟩)) hb); have HB2 := Aside0.mk (below_step HB.out hb)
      obtain ⟨go, co, hv, gb, gl, HG0⟩ := Kd.S_form HO.out (by omega)
      rw [hn] at hv; subst hv; clear HG0
      obtain ⟨oki, ce, hcl, hM, hcc, hfr, hoki, hH⟩ := Kd.S_elem HO2.out zFunc (j : Int) (by omega) (by omega)
      obtain ⟨u2, u3, u4, rfl, _, _, _⟩ := kFuncI_openM hM
      obtain ⟨t2, t3, t4, rfl, r2, r3, r4⟩ := kFuncI_openM hm
      obtain ⟨tA2, tc2, rfl⟩ := Kd.R_slice r2
      obtain ⟨tA3, tc3, rfl⟩ := Kd.R_slice r3
      obtain ⟨tA4, tc4, rfl⟩ := Kd.R_slice r4
      clear r2 r3 r4
      rw [Int.toNat_natCast] at hcc hfr
      have y0 := hcc 0 _ rfl; replace y0 : w2.cell? ⟨go, j * 5, none⟩ = _ := y0; have f0 := hfr 0; replace f0 : w2.frozen? ⟨go, j * 5, none⟩ = false := f0
      have y1 := hcc 1 _ rfl; replace y1 : w2.cell? ⟨go, j * 5 + 1, none⟩ = _ := y1; have f1 := hfr 1; replace f1 : w2.frozen? ⟨go, j * 5 + 1, none⟩ = false := f1
      have y2 := hcc 2 _ rfl; replace y2 : w2.cell? ⟨go, j * 5 + 2, none⟩ = _ := y2; have f2 := hfr 2; replace f2 : w2.frozen? ⟨go, j * 5 + 2, none⟩ = false := f2
      have y3 := hcc 3 _ rfl; replace y3 : w2.cell? ⟨go, j * 5 + 3, none⟩ = _ := y3; have f3 := hfr 3; replace f3 : w2.frozen? ⟨go, j * 5 + 3, none⟩ = false := f3
      have y4 := hcc 4 _ rfl; replace y4 : w2.cell? ⟨go, j * 5 + 4, none⟩ = _ := y4; have f4 := hfr 4; replace f4 : w2.frozen? ⟨go, j * 5 + 4, none⟩ = false := f4
      have kk := kFuncI.M_lower (base' := w.heap.size) HB.out.size (kFuncI.M_bound hm)
      have HP := Aside0.mk (Kd.S_seg (okg := fun k => wr.heap.size ≤ k) hH (by omega) (by omega) (seg := [.int .i64 (el zFunc l j).params, .int .i64 (el zFunc l j).regs, .slice tA2 (el zFunc l j).caps.length tc2, .slice tA3 (el zFunc l j).code.length tc3, .slice tA4 (el zFunc l j).handlers.length tc4]) (j := 0) (show 5 ≤ 5 from by decide) (x' := el zFunc l j) kk (fun k hk => .inr hk.2.1) (fun k hk => ⟨trivial, by have : wr.heap.size ≤ k := hk; omega⟩)).1
      clear kk hm
      have GB := Aside0.mk gb
      clear gb gl hcl hcc hfr hM hb hbx hoki hH HO HB HO2
      go_wp2
      go_roundw
      case measure => simp [intOf]; omega
      case rel => exact ⟨j + 1, _, by go_num, by omega, by simpa using hn, ⟨fun i hi => by rcases Nat.lt_succ_iff_lt_or_eq.1 hi with h | h; (rw [el_set_ne (by omega)]; exact HE.out i h); subst h; exact el_set_eq (by omega)⟩, HP, ⟨below_set (below_set (below_set (below_set (below_set (HB2.out) GB.out) GB.out) GB.out) GB.out) GB.out⟩⟩
    · have hb2 : ¬ (j : Int) < (l.length : Int) := by omega
      have he : xs = l := el_ext zFunc hn (fun i hi => HE.out i (by omega))
      subst he
      go_wp2
      go_ret
      exact ⟨_, rfl, HO.out, HB.out⟩
theorem rowA {w : World} {lo lo' : Nat} {ok : Nat → Prop} {x : List Func} {v : Value} (h : (sliceS 73 kFuncI).M w lo ok x [v]) (hl : lo' ≤ lo) : Kd.S kFuncI 73 w lo' (fun _ => True) v x := by
  obtain ⟨u, e, hs⟩ := h
  cases e
  exact Kd.S_mono (Kd.S_lower hs hl) (fun _ _ => trivial)
set_option maxHeartbeats 4000000 in
set_option maxRecDepth 100000 in
theorem toImageA (x : Image) (cs : List Value) (w : World) (hk : kImageL.K w x cs) (hl : LenImage x) :
    Calls Try.prog 15 #[.agg ⟨cs⟩] w fun e w' => ∃ ds, e = .returned (.agg ⟨ds⟩) ∧ kImageA.M w' w.heap.size (fun _ => True) x ds ∧ Below w.heap.size w w' := by
  obtain ⟨pA0, pc0, pA1, pc1, rfl, pl0, pg0, pl1, pg1⟩ := kImageL_open hk
  have pG0 := Aside0.mk pg0; clear pg0 pl0
  have pG1 := Aside0.mk pg1; clear pg1 pl1
  clear hk; unfold LenImage at hl
  have HL := Aside0.mk hl; clear hl
  have hu := Try.underlying25; have hu2 := Try.underlying37
  have M0 := Aside0.mk ((((Mem.start w).allocAt rfl #[.slice pA0 x.funcs.length pc0, .slice pA1 x.consts.length pc1] 25).allocAt (g := (w.heap.size + 1)) (by simp) #[.slice none 0 0, .slice none 0 0] 37).allocAt (g := (w.heap.size + 1 + 1)) (by simp) #[.slice none 0 0, .slice none 0 0] 37)
  go_enter Try.func15, Try.ntmps15
  go_wp2_with fail
  refine (toFuncSA _ _ x.funcs _ (Kd.C_below pG0.out M0.out.below) HL.out.1 HL.out.2.1).mono ?_
  rintro e w0 ⟨v, rfl, ho, hb⟩; obtain ⟨vA0, vc0, rfl⟩ := Kd.S_slice ho
  have N0 := Aside0.mk (M0.out.push (d := sliceS 73 kFuncI) hb ⟨_, rfl, ho⟩); clear ho hb M0
  have M1 := Aside0.mk (Mem.set (A := [_]) N0.out 0 (.slice vA0 x.funcs.length vc0) (cs' := #[.slice vA0 x.funcs.length vc0, .slice none 0 0]) rfl)
  have za := N0.out.box (.tail _ (.tail _ (.tail _ (.head _)))); have zo := N0.out.box (.tail _ (.head _)); have fo := N0.out.free (.tail _ (.head _)); have zr := N0.out.box (.tail _ (.tail _ (.head _))); have fr := N0.out.free (.tail _ (.tail _ (.head _)))
  go_wp2_with fail
  clear za zo fo zr fr N0
  refine (toConstS _ _ x.consts _ (Kd.C_below pG1.out M1.out.below) HL.out.2.2).mono ?_
  rintro e w1 ⟨v, rfl, ho, hb⟩; obtain ⟨vA1, vc1, rfl⟩ := Kd.R_slice ho
  have N1 := Aside0.mk (M1.out.pushR hb ho); clear ho hb M1
  have M2 := Aside0.mk (Mem.set (A := [_, _]) N1.out 1 (.slice vA1 x.consts.length vc1) (cs' := #[.slice vA0 x.funcs.length vc0, .slice vA1 x.consts.length vc1]) rfl)
  have za := N1.out.box (.tail _ (.tail _ (.tail _ (.tail _ (.head _))))); have zo := N1.out.box (.tail _ (.tail _ (.head _))); have fo := N1.out.free (.tail _ (.tail _ (.head _))); have zr := N1.out.box (.tail _ (.tail _ (.tail _ (.head _)))); have fr := N1.out.free (.tail _ (.tail _ (.tail _ (.head _))))
  go_wp2
  have Z0 := Aside0.mk (Mem.set (A := [_, _, _]) M2.out 0 (.slice vA0 x.funcs.length vc0) (cs' := #[.slice vA0 x.funcs.length vc0, .slice none 0 0]) rfl); clear M2
  have Z1 := Aside0.mk (Mem.set (A := [_, _, _]) Z0.out 1 (.slice vA1 x.consts.length vc1) (cs' := #[.slice vA0 x.funcs.length vc0, .slice vA1 x.consts.length vc1]) rfl); clear Z0
  refine bodyPost_ret (results_cell_row rfl _ _ (w.heap.size + 1) 37 #[.slice vA0 x.funcs.length vc0, .slice vA1 x.consts.length vc1] (0, 0) _ rfl (Z1.out.blk (.tail _ (.tail _ (.tail _ (.head _))))) hu2 rfl (by kernel_rfl)) rfl ?_
  exact ⟨_, rfl, kImageA_mkM _ _ _ x (rowA (Z1.out.val (.tail _ (.head _))) (Z1.out.fits _ (.tail _ (.head _))).1) (Z1.out.rowT (.head _)), Z1.out.below⟩
end Go.Proofs.Ytcbaokflimdjnaa
end
section
namespace Go.Proofs.Ytcbaokflimdjnaa.QFnExactVerify
open Go.RowKit Go.Proofs.YtcbaokflimdjnaaW.PrintWords Go.Proofs.YtcbaokflimdjnaaW.PrintLast Go.Proofs.YtcbaokflimdjnaaW.PrintMore
attribute [local go_sem] max_two min_two max_three min_three max_four min_four max2_mx min2_mn   -- for this text's walks alone
set_option linter.unusedVariables false
set_option linter.unusedSimpArgs false
def laws_markText.l0 : Nat → Int → ByteArray → Option (ByteArray)
  | 0, _, _ => none
  | k + 1, x0, x3 => if x0 > 0 then ((some (([(wrap64 (48 + (Int.tmod x0 10))) % 256] : List Int) : List Int)).bind fun y375 => (if (strOfNums y375).size + x3.size ≤ 9223372036854775807 then (laws_markText.l0 k (wrap64 (Int.tdiv x0 10)) ((strOfNums y375) ++ x3)) else (none))) else (if 1 + x3.size ≤ 9223372036854775807 then (some ((⟨#[109]⟩ : ByteArray) ++ x3)) else (none))
def laws_markText.f (k : Nat) (a0 : Int) : Option (ByteArray) := if a0 ≤ 0 then (some (⟨#[109, 48]⟩ : ByteArray)) else (laws_markText.l0 k a0 (⟨#[]⟩ : ByteArray))
set_option maxHeartbeats 8000000 in
set_option maxRecDepth 100000 in
theorem laws_markText.calls (k : Nat) (a0 : Int) (r : ByteArray) (w : World) (h : laws_markText.f k a0 = some r) :
    Calls Try.prog 109 #[.int .i64 a0] w fun e w' => e = .returned (.string r) ∧ Below w.heap.size w w' := by
  have HB := Aside0.mk (Below.refl w.heap.size w)
  have H : (if a0 ≤ 0 then (some (⟨#[109, 48]⟩ : ByteArray)) else (laws_markText.l0 k a0 (⟨#[]⟩ : ByteArray))) = some r := h
  clear h
  by_cases c2 : a0 ≤ 0
  · rw [if_pos c2] at H
    have c2b0 : decide (a0 ≤ 0) = true := decide_eq_true c2
    clear c2
    obtain rfl := Option.some.inj H
    go_enter Try.func109, Try.ntmps109
    go_wp2
    go_ret
    exact ⟨by first | rfl | (simp; done) | (simp [errW_none, errW_some] <;> rfl) | (simp [*, errW_none, errW_some] <;> rfl) | (simp [bne, List.isEmpty_iff]; done) | (rw [Bool.eq_iff_iff]; simp), by repeat (first | (with_reducible first | exact HB.out | apply below_alloc | apply pw_below_drewN | apply below_drew1) | exact HB.out)⟩
  · rw [if_neg c2] at H
    have c2b0 : decide (a0 ≤ 0) = false := decide_eq_false c2
    clear c2
    have H' := Aside0.mk H
    clear H
    go_enter Try.func109, Try.ntmps109
    go_wp2
    go_loopg [0, 3] k (fun kq v0 v3 w' => ∃ (x0_1 : Int) (x3_1 : ByteArray), v0 = .int .i64 x0_1 ∧ v3 = .string x3_1 ∧ Aside0 (laws_markText.l0 kq x0_1 x3_1 = some r) ∧ Aside0 (kq ≤ k) ∧ Aside0 (Below w.heap.size w w'))
    case atStart => exact ⟨(a0), ((⟨#[]⟩ : ByteArray)), (by first | rfl | (simp; done) | (simp [*]; done)), (by first | rfl | (simp; done) | (simp [*]; done)), H', ⟨Nat.le_refl _⟩, ⟨by repeat (first | (with_reducible first | exact HB.out | apply below_alloc | apply pw_below_drewN | apply below_drew1) | exact HB.out)⟩⟩
    case round =>
      clear H'
      try clear c1
      try clear c2
      try clear c2b0
      try clear p2
      obtain ⟨x0_1, x3_1, rfl, rfl, HA, HK1, HB⟩ := hrel
      cases gk with
      | zero => exact absurd HA.out (by simp [laws_markText.l0])
      | succ k1 =>
        have H := HA.out
        clear HA
        simp only [laws_markText.l0] at H
        by_cases c3 : x0_1 > 0
        · rw [if_pos c3] at H
          have c3b0 : decide (0 < x0_1) = true := decide_eq_true c3
          clear c3
          obtain ⟨y375, hy375⟩ : ∃ y_ : List Int, y_ = (([(wrap64 (48 + (Int.tmod x0_1 10))) % 256] : List Int)) := ⟨_, rfl⟩
          replace H : (if (strOfNums y375).size + x3_1.size ≤ 9223372036854775807 then (laws_markText.l0 k1 (wrap64 (Int.tdiv x0_1 10)) ((strOfNums y375) ++ x3_1)) else (none)) = some r := by first | (rw [hy375]; with_reducible exact H) | (have H2_ := (Option.bind_some _ _).symm.trans H; rw [hy375]; with_reducible exact H2_) | (have H2_ := (Option.bind_some _ _).symm.trans H; with_reducible exact H2_) | with_reducible exact H | (rw [hy375]; exact H) | exact H
          have Ny375 := Aside0.mk hy375
          clear hy375
          by_cases c4 : (strOfNums y375).size + x3_1.size ≤ 9223372036854775807
          · rw [if_pos c4] at H
            have c4b0 := eq_true c4
            have c4b1 : decide ((strOfNums y375).size + x3_1.size ≤ 9223372036854775807) = true := decide_eq_true c4
            try have c4b2 : (9223372036854775807 < (strOfNums y375).size + x3_1.size) = False := eq_false (Nat.not_lt.2 c4)
            have H' := Aside0.mk H
            clear H
            go_wp2_with (first | ((with_reducible refine gate_dst (N := 12) rfl ?_); refine Kd.R_lit (Kd.int .u8) _ 5 ?hg (N := 12) ?hd (xs := ([(wrap64 (48 + (Int.tmod x0_1 10))) % 256] : List Int)) (inner := [.int .u8 ((wrap64 (48 + (Int.tmod x0_1 10))) % 256)]) (ok := fun _ => True) (okp := fun _ => True) ?hr ?hp (fun _ hk => hk) trivial (Below.refl _ _) (Nat.le_refl _) (by simp) ?_; (case hd => rfl); (case hg => rfl); (case hr => first | (go_simp; done) | (go_simp; rfl)); (case hp => exact (Reps.one (show Kd.M (Kd.int .u8) _ _ _ ((wrap64 (48 + (Int.tmod x0_1 10))) % 256) [.int .u8 ((wrap64 (48 + (Int.tmod x0_1 10))) % 256)] from rfl) (Reps.none _ _))); intro v376 w5 ho6 hb hg_ hnew_; clear hg_ hnew_; (first | rw [← Ny375.out] at ho6 | (simp only [Int.reduceToNat] at ho6; rw [← Ny375.out] at ho6)); have n0_ := Aside0.mk (Kd.R_lower ho6 (below_size (by repeat (first | (with_reducible first | exact HB.out | apply below_alloc | apply pw_below_drewN | apply below_drew1) | exact HB.out)))); have n1_ := Aside0.mk (below_step (by repeat (first | (with_reducible first | exact HB.out | apply below_alloc | apply pw_below_drewN | apply below_drew1) | exact HB.out)) hb); clear HB; have HO377 := n0_; have HB := n1_; clear n0_ n1_; clear hb ho6; have hcv7 := own_string (P := Try.prog) Try.underlying96 Try.underlying5 Try.underlying9 (Kd.own_of_R HO377.out)))
            go_roundg k1
            case measure => have := HK1.out; omega
            case rel => exact ⟨(wrap64 (Int.tdiv x0_1 10)), ((strOfNums y375) ++ x3_1), (by first | rfl | (simp; done) | (simp [*]; done)), (by first | rfl | (simp; done) | (simp [*]; done)), H', ⟨by have := HK1.out; omega⟩, ⟨by repeat (first | (with_reducible first | exact HB.out | apply below_alloc | apply pw_below_drewN | apply below_drew1) | exact HB.out)⟩⟩
          · rw [if_neg c4] at H
            exact absurd H (by simp)
        · rw [if_neg c3] at H
          have c3b0 : decide (0 < x0_1) = false := decide_eq_false c3
          clear c3
          by_cases c8 : 1 + x3_1.size ≤ 9223372036854775807
          · rw [if_pos c8] at H
            have c8b0 := eq_true c8
            have c8b1 : decide (1 + x3_1.size ≤ 9223372036854775807) = true := decide_eq_true c8
            try have c8b2 : (9223372036854775807 < 1 + x3_1.size) = False := eq_false (Nat.not_lt.2 c8)
            obtain rfl := Option.some.inj H
            go_wp2
            go_ret
            exact ⟨by first | rfl | (simp; done) | (simp [errW_none, errW_some] <;> rfl) | (simp [*, errW_none, errW_some] <;> rfl) | (simp [bne, List.isEmpty_iff]; done) | (rw [Bool.eq_iff_iff]; simp), by repeat (first | (with_reducible first | exact HB.out | apply below_alloc | apply pw_below_drewN | apply below_drew1) | exact HB.out)⟩
          · rw [if_neg c8] at H
            exact absurd H (by simp)
end Go.Proofs.Ytcbaokflimdjnaa.QFnExactVerify
end
section
namespace Go.Proofs.Ytcbaokflimdjnaa
open Go.RowKit Go.Proofs.YtcbaokflimdjnaaW.PrintWords Go.Proofs.YtcbaokflimdjnaaW.PrintMore Go.Proofs.Ytcbaokflimdjnaa.Law Go.Proofs.Ytcbaokflimdjnaa.Num Go.Proofs.Ytcbaokflimdjnaa.QFnExactVerify
set_option linter.unusedVariables false
set_option linter.unusedSimpArgs false
set_option autoImplicit false
theorem nums_size (v : Int) : (strOfNums [v]).size = 1 := rfl
theorem text_some : ∀ (n : Nat) (x : Int) (s : ByteArray), 0 ≤ x → x < 10 ^ n → x < 9223372036854775808 → s.size + n ≤ 1000 → ∃ r, laws_markText.l0 (n + 1) x s = some r
  | 0, x, s, h0, h1, hb, hs => by
    unfold laws_markText.l0
    rw [if_neg (by simp at h1; omega), if_pos (by omega)]
    exact ⟨_, rfl⟩
  | n + 1, x, s, h0, h1, hb, hs => by
    unfold laws_markText.l0
    by_cases hx : x > 0
    · rw [if_pos hx, Option.bind_some, if_pos (by rw [nums_size]; omega)]
      have hp : (10 : Int) ^ (n + 1) = 10 * 10 ^ n := by rw [Int.pow_succ, Int.mul_comm]
      have e : Int.tdiv x 10 = x / 10 := Int.tdiv_eq_ediv_of_nonneg h0
      rw [e, wrap64_id (by omega) (by omega)]
      exact text_some n (x / 10) _ (by omega) (by omega) (by omega) (by rw [ByteArray.size_append, nums_size]; omega)
    · rw [if_neg hx, if_pos (by omega)]
      exact ⟨_, rfl⟩
def mkText (k : Int) : ByteArray := (laws_markText.f 31 k).getD ByteArray.empty
theorem text_ok {k : Int} (h0 : 0 ≤ k) (h1 : k < 9223372036854775808) : laws_markText.f 31 k = some (mkText k) := by
  have h : ∃ r, laws_markText.f 31 k = some r := by
    unfold laws_markText.f
    split
    · exact ⟨_, rfl⟩
    · exact text_some 30 k _ h0 (by omega) h1 (by decide)
  obtain ⟨r, hr⟩ := h
  unfold mkText
  rw [hr]
  rfl
def mkCap (k : Int) : Cap := ⟨(k % 3 == 0), (k + 1)⟩
def mkCapS (k : Int) (n : Nat) : List Cap := (List.range n).map (fun (i : Nat) => mkCap (k + 2 * (i : Int)))
theorem mkCapS_len (k : Int) (n : Nat) : (mkCapS k n).length = n := by simp [mkCapS]
theorem el_mkCapS (k : Int) {n j : Nat} (h : j < n) : el zCap (mkCapS k n) j = mkCap (k + 2 * (j : Int)) := by simp [el, mkCapS, h]
set_option maxHeartbeats 4000000 in
set_option maxRecDepth 100000 in
theorem markCapS (v1 : Value) (l : List Cap) (k : Int) (w0 w : World) (lo : Nat) (ok : Nat → Prop) (hB : Below w0.heap.size w0 w) (hlo : w0.heap.size ≤ lo) (hr : kCap.R 105 w lo ok v1 l) (h0 : 0 ≤ k) (h1 : k + 2 * l.length ≤ 4611686018427387904) :
    Calls Try.prog 106 #[v1, .int .i64 k] w fun e w' => e = .returned (.int .i64 (k + 2 * (l.length : Int))) ∧ kCap.R 105 w' lo ok v1 (mkCapS k l.length) ∧ Below w0.heap.size w0 w' ∧ Kept w w' ok := by
  have HB := Aside0.mk hB
  have HO := Aside0.mk hr
  have HK := Aside0.mk (Kept.refl w ok)
  have HOK := Aside0.mk hr.1
  have hu := Try.underlying105
  obtain ⟨A, c, rfl⟩ := Kd.R_slice hr
  have hll : l.length ≤ 9223372036854775807 := by omega
  clear hB hr
  go_enter Try.func106, Try.ntmps106
  go_wp2
  go_loopw [1, 5] (fun u v wr => ∃ (j : Nat) (kk : Int) (xs : List Cap), u = .int .i64 kk ∧ v = .int .i64 j ∧ Aside0 (kk = k + 2 * (j : Int)) ∧ j ≤ l.length ∧ xs.length = l.length ∧ Aside0 (∀ i : Nat, i < j → el zCap xs i = el zCap (mkCapS k l.length) i) ∧ Aside0 (kCap.R 105 wr lo ok (.slice A l.length c) xs) ∧ Aside0 (Below w0.heap.size w0 wr) ∧ Aside0 (Kept w wr ok)) (fun u v _ => l.length - (intOf v).toNat)
  case atStart => exact ⟨0, k, _, rfl, rfl, ⟨by simp⟩, by omega, rfl, ⟨fun i hi => by omega⟩, HO, HB, HK⟩
  case round =>
    clear HO HB HK
    obtain ⟨j, kk, xs, rfl, rfl, HKK, hj, hn, HE, HO, HB, HK⟩ := hrel
    have hkk : 0 ≤ kk ∧ kk ≤ 4611686018427387904 := by have := HKK.out; omega
    by_cases hlt : j < l.length
    · have hb2 : (j : Int) < (l.length : Int) := by omega
      obtain ⟨go, co, hv, gb, gl, cl0, HG0⟩ := Kd.R_form HO.out (by omega)
      rw [hn] at hv
      have hg : ok go := HOK.out go (by rw [hv]; simp [Value.ownBlock])
      injection hv with hA _ hc
      subst hA; subst hc; clear HG0
      obtain ⟨ce, hcl, hM, hcc, hfr⟩ := Kd.R_elem HO.out zCap (j : Int) (by omega) (by omega)
      have hce := kCap_openM hM; subst hce
      rw [Int.toNat_natCast] at hcc hfr
      have y0 := hcc 0 _ rfl; replace y0 : wr.cell? ⟨go, j * 2, none⟩ = _ := y0; have f0 := hfr 0; replace f0 : wr.frozen? ⟨go, j * 2, none⟩ = false := f0
      have y1 := hcc 1 _ rfl; replace y1 : wr.cell? ⟨go, j * 2 + 1, none⟩ = _ := y1; have f1 := hfr 1; replace f1 : wr.frozen? ⟨go, j * 2 + 1, none⟩ = false := f1
      have HP := Aside0.mk (Kd.R_seg HO.out (j : Int) (by omega) (by omega) (seg := [.bool (kk % 3 == 0), .int .i64 (kk + 1)]) (j := 0) hcl (by rw [Int.toNat_natCast]; exact hcc) (show 2 ≤ 2 from by decide) (x' := mkCap kk) (kCap_mkM _ _ _ (mkCap kk)) (fun _ hk => hk)).1
      have GB := Aside0.mk gb; have GK := Aside0.mk hg
      clear gb gl hcl hcc hfr hM hg
      go_wp2
      go_roundw
      case measure => simp [intOf]; omega
      case rel => exact ⟨j + 1, kk + 2, _, by first | rfl | (simp [Int.add_assoc]; done) | go_num, by go_num, ⟨by have := HKK.out; omega⟩, by omega, by simpa using hn, ⟨fun i hi => by rcases Nat.lt_succ_iff_lt_or_eq.1 hi with h | h; (rw [el_set_ne (by omega)]; exact HE.out i h); subst h; rw [el_mkCapS k hlt, ← HKK.out]; exact el_set_eq (by omega)⟩, HP, ⟨below_set (below_set (HB.out) (Nat.le_trans hlo GB.out)) (Nat.le_trans hlo GB.out)⟩, ⟨Kept.setCell (Kept.setCell (HK.out) (.inl GK.out) _) (.inl GK.out) _⟩⟩
    · have hb2 : ¬ (j : Int) < (l.length : Int) := by omega
      have hj2 : j = l.length := by omega
      have he : xs = mkCapS k l.length := el_ext zCap (by rw [hn, mkCapS_len]) (fun i hi => HE.out i (by omega))
      subst he
      have hke := HKK.out
      rw [hj2] at hke
      subst hke
      go_wp2
      go_ret
      exact ⟨rfl, HO.out, HB.out, HK.out⟩
def mkIns (k : Int) : Ins := ⟨k, (k + 1), (k + 1 + 1)⟩
def mkInsS (k : Int) (n : Nat) : List Ins := (List.range n).map (fun (i : Nat) => mkIns (k + 3 * (i : Int)))
theorem mkInsS_len (k : Int) (n : Nat) : (mkInsS k n).length = n := by simp [mkInsS]
theorem el_mkInsS (k : Int) {n j : Nat} (h : j < n) : el zIns (mkInsS k n) j = mkIns (k + 3 * (j : Int)) := by simp [el, mkInsS, h]
set_option maxHeartbeats 4000000 in
set_option maxRecDepth 100000 in
theorem markInsS (v1 : Value) (l : List Ins) (k : Int) (w0 w : World) (lo : Nat) (ok : Nat → Prop) (hB : Below w0.heap.size w0 w) (hlo : w0.heap.size ≤ lo) (hr : kIns.R 76 w lo ok v1 l) (h0 : 0 ≤ k) (h1 : k + 3 * l.length ≤ 4611686018427387904) :
    Calls Try.prog 107 #[v1, .int .i64 k] w fun e w' => e = .returned (.int .i64 (k + 3 * (l.length : Int))) ∧ kIns.R 76 w' lo ok v1 (mkInsS k l.length) ∧ Below w0.heap.size w0 w' ∧ Kept w w' ok := by
  have HB := Aside0.mk hB
  have HO := Aside0.mk hr
  have HK := Aside0.mk (Kept.refl w ok)
  have HOK := Aside0.mk hr.1
  have hu := Try.underlying76
  obtain ⟨A, c, rfl⟩ := Kd.R_slice hr
  have hll : l.length ≤ 9223372036854775807 := by omega
  clear hB hr
  go_enter Try.func107, Try.ntmps107
  go_wp2
  go_loopw [1, 5] (fun u v wr => ∃ (j : Nat) (kk : Int) (xs : List Ins), u = .int .i64 kk ∧ v = .int .i64 j ∧ Aside0 (kk = k + 3 * (j : Int)) ∧ j ≤ l.length ∧ xs.length = l.length ∧ Aside0 (∀ i : Nat, i < j → el zIns xs i = el zIns (mkInsS k l.length) i) ∧ Aside0 (kIns.R 76 wr lo ok (.slice A l.length c) xs) ∧ Aside0 (Below w0.heap.size w0 wr) ∧ Aside0 (Kept w wr ok)) (fun u v _ => l.length - (intOf v).toNat)
  case atStart => exact ⟨0, k, _, rfl, rfl, ⟨by simp⟩, by omega, rfl, ⟨fun i hi => by omega⟩, HO, HB, HK⟩
  case round =>
    clear HO HB HK
    obtain ⟨j, kk, xs, rfl, rfl, HKK, hj, hn, HE, HO, HB, HK⟩ := hrel
    have hkk : 0 ≤ kk ∧ kk ≤ 4611686018427387904 := by have := HKK.out; omega
    by_cases hlt : j < l.length
    · have hb2 : (j : Int) < (l.length : Int) := by omega
      obtain ⟨go, co, hv, gb, gl, cl0, HG0⟩ := Kd.R_form HO.out (by omega)
      rw [hn] at hv
      have hg : ok go := HOK.out go (by rw [hv]; simp [Value.ownBlock])
      injection hv with hA _ hc
      subst hA; subst hc; clear HG0
      obtain ⟨ce, hcl, hM, hcc, hfr⟩ := Kd.R_elem HO.out zIns (j : Int) (by omega) (by omega)
      have hce := kIns_openM hM; subst hce
      rw [Int.toNat_natCast] at hcc hfr
      have y0 := hcc 0 _ rfl; replace y0 : wr.cell? ⟨go, j * 3, none⟩ = _ := y0; have f0 := hfr 0; replace f0 : wr.frozen? ⟨go, j * 3, none⟩ = false := f0
      have y1 := hcc 1 _ rfl; replace y1 : wr.cell? ⟨go, j * 3 + 1, none⟩ = _ := y1; have f1 := hfr 1; replace f1 : wr.frozen? ⟨go, j * 3 + 1, none⟩ = false := f1
      have y2 := hcc 2 _ rfl; replace y2 : wr.cell? ⟨go, j * 3 + 2, none⟩ = _ := y2; have f2 := hfr 2; replace f2 : wr.frozen? ⟨go, j * 3 + 2, none⟩ = false := f2
      have HP := Aside0.mk (Kd.R_seg HO.out (j : Int) (by omega) (by omega) (seg := [.int .i64 kk, .int .i64 (kk + 1), .int .i64 (kk + 1 + 1)]) (j := 0) hcl (by rw [Int.toNat_natCast]; exact hcc) (show 3 ≤ 3 from by decide) (x' := mkIns kk) (kIns_mkM _ _ _ (mkIns kk)) (fun _ hk => hk)).1
      have GB := Aside0.mk gb; have GK := Aside0.mk hg
      clear gb gl hcl hcc hfr hM hg
      go_wp2
      go_roundw
      case measure => simp [intOf]; omega
      case rel => exact ⟨j + 1, kk + 3, _, by first | rfl | (simp [Int.add_assoc]; done) | go_num, by go_num, ⟨by have := HKK.out; omega⟩, by omega, by simpa using hn, ⟨fun i hi => by rcases Nat.lt_succ_iff_lt_or_eq.1 hi with h | h; (rw [el_set_ne (by omega)]; exact HE.out i h); subst h; rw [el_mkInsS k hlt, ← HKK.out]; exact el_set_eq (by omega)⟩, HP, ⟨below_set (below_set (below_set (HB.out) (Nat.le_trans hlo GB.out)) (Nat.le_trans hlo GB.out)) (Nat.le_trans hlo GB.out)⟩, ⟨Kept.setCell (Kept.setCell (Kept.setCell (HK.out) (.inl GK.out) _) (.inl GK.out) _) (.inl GK.out) _⟩⟩
    · have hb2 : ¬ (j : Int) < (l.length : Int) := by omega
      have hj2 : j = l.length := by omega
      have he : xs = mkInsS k l.length := el_ext zIns (by rw [hn, mkInsS_len]) (fun i hi => HE.out i (by omega))
      subst he
      have hke := HKK.out
      rw [hj2] at hke
      subst hke
      go_wp2
      go_ret
      exact ⟨rfl, HO.out, HB.out, HK.out⟩
def mkHandler (k : Int) : Handler := ⟨k, (k + 1), (k + 1 + 1)⟩
def mkHandlerS (k : Int) (n : Nat) : List Handler := (List.range n).map (fun (i : Nat) => mkHandler (k + 3 * (i : Int)))
theorem mkHandlerS_len (k : Int) (n : Nat) : (mkHandlerS k n).length = n := by simp [mkHandlerS]
theorem el_mkHandlerS (k : Int) {n j : Nat} (h : j < n) : el zHandler (mkHandlerS k n) j = mkHandler (k + 3 * (j : Int)) := by simp [el, mkHandlerS, h]
set_option maxHeartbeats 4000000 in
set_option maxRecDepth 100000 in
theorem markHandlerS (v1 : Value) (l : List Handler) (k : Int) (w0 w : World) (lo : Nat) (ok : Nat → Prop) (hB : Below w0.heap.size w0 w) (hlo : w0.heap.size ≤ lo) (hr : kHandler.R 107 w lo ok v1 l) (h0 : 0 ≤ k) (h1 : k + 3 * l.length ≤ 4611686018427387904) :
    Calls Try.prog 108 #[v1, .int .i64 k] w fun e w' => e = .returned (.int .i64 (k + 3 * (l.length : Int))) ∧ kHandler.R 107 w' lo ok v1 (mkHandlerS k l.length) ∧ Below w0.heap.size w0 w' ∧ Kept w w' ok := by
  have HB := Aside0.mk hB
  have HO := Aside0.mk hr
  have HK := Aside0.mk (Kept.refl w ok)
  have HOK := Aside0.mk hr.1
  have hu := Try.underlying107
  obtain ⟨A, c, rfl⟩ := Kd.R_slice hr
  have hll : l.length ≤ 9223372036854775807 := by omega
  clear hB hr
  go_enter Try.func108, Try.ntmps108
  go_wp2
  go_loopw [1, 5] (fun u v wr => ∃ (j : Nat) (kk : Int) (xs : List Handler), u = .int .i64 kk ∧ v = .int .i64 j ∧ Aside0 (kk = k + 3 * (j : Int)) ∧ j ≤ l.length ∧ xs.length = l.length ∧ Aside0 (∀ i : Nat, i < j → el zHandler xs i = el zHandler (mkHandlerS k l.length) i) ∧ Aside0 (kHandler.R 107 wr lo ok (.slice A l.length c) xs) ∧ Aside0 (Below w0.heap.size w0 wr) ∧ Aside0 (Kept w wr ok)) (fun u v _ => l.length - (intOf v).toNat)
  case atStart => exact ⟨0, k, _, rfl, rfl, ⟨by simp⟩, by omega, rfl, ⟨fun i hi => by omega⟩, HO, HB, HK⟩
  case round =>
    clear HO HB HK
    obtain ⟨j, kk, xs, rfl, rfl, HKK, hj, hn, HE, HO, HB, HK⟩ := hrel
    have hkk : 0 ≤ kk ∧ kk ≤ 4611686018427387904 := by have := HKK.out; omega
    by_cases hlt : j < l.length
    · have hb2 : (j : Int) < (l.length : Int) := by omega
      obtain ⟨go, co, hv, gb, gl, cl0, HG0⟩ := Kd.R_form HO.out (by omega)
      rw [hn] at hv
      have hg : ok go := HOK.out go (by rw [hv]; simp [Value.ownBlock])
      injection hv with hA _ hc
      subst hA; subst hc; clear HG0
      obtain ⟨ce, hcl, hM, hcc, hfr⟩ := Kd.R_elem HO.out zHandler (j : Int) (by omega) (by omega)
      have hce := kHandler_openM hM; subst hce
      rw [Int.toNat_natCast] at hcc hfr
      have y0 := hcc 0 _ rfl; replace y0 : wr.cell? ⟨go, j * 3, none⟩ = _ := y0; have f0 := hfr 0; replace f0 : wr.frozen? ⟨go, j * 3, none⟩ = false := f0
      have y1 := hcc 1 _ rfl; replace y1 : wr.cell? ⟨go, j * 3 + 1, none⟩ = _ := y1; have f1 := hfr 1; replace f1 : wr.frozen? ⟨go, j * 3 + 1, none⟩ = false := f1
      have y2 := hcc 2 _ rfl; replace y2 : wr.cell? ⟨go, j * 3 + 2, none⟩ = _ := y2; have f2 := hfr 2; replace f2 : wr.frozen? ⟨go, j * 3 + 2, none⟩ = false := f2
      have HP := Aside0.mk (Kd.R_seg HO.out (j : Int) (by omega) (by omega) (seg := [.int .i64 kk, .int .i64 (kk + 1), .int .i64 (kk + 1 + 1)]) (j := 0) hcl (by rw [Int.toNat_natCast]; exact hcc) (show 3 ≤ 3 from by decide) (x' := mkHandler kk) (kHandler_mkM _ _ _ (mkHandler kk)) (fun _ hk => hk)).1
      have GB := Aside0.mk gb; have GK := Aside0.mk hg
      clear gb gl hcl hcc hfr hM hg
      go_wp2
      go_roundw
      case measure => simp [intOf]; omega
      case rel => exact ⟨j + 1, kk + 3, _, by first | rfl | (simp [Int.add_assoc]; done) | go_num, by go_num, ⟨by have := HKK.out; omega⟩, by omega, by simpa using hn, ⟨fun i hi => by rcases Nat.lt_succ_iff_lt_or_eq.1 hi with h | h; (rw [el_set_ne (by omega)]; exact HE.out i h); subst h; rw [el_mkHandlerS k hlt, ← HKK.out]; exact el_set_eq (by omega)⟩, HP, ⟨below_set (below_set (below_set (HB.out) (Nat.le_trans hlo GB.out)) (Nat.le_trans hlo GB.out)) (Nat.le_trans hlo GB.out)⟩, ⟨Kept.setCell (Kept.setCell (Kept.setCell (HK.out) (.inl GK.out) _) (.inl GK.out) _) (.inl GK.out) _⟩⟩
    · have hb2 : ¬ (j : Int) < (l.length : Int) := by omega
      have hj2 : j = l.length := by omega
      have he : xs = mkHandlerS k l.length := el_ext zHandler (by rw [hn, mkHandlerS_len]) (fun i hi => HE.out i (by omega))
      subst he
      have hke := HKK.out
      rw [hj2] at hke
      subst hke
      go_wp2
      go_ret
      exact ⟨rfl, HO.out, HB.out, HK.out⟩
def mkConst (k : Int) : Const := ⟨k, k + 1, mkText (k + 1 + 1)⟩
def mkConstS (k : Int) (n : Nat) : List Const := (List.range n).map (fun (i : Nat) => mkConst (k + 3 * (i : Int)))
theorem mkConstS_len (k : Int) (n : Nat) : (mkConstS k n).length = n := by simp [mkConstS]
theorem el_mkConstS (k : Int) {n j : Nat} (h : j < n) : el zConst (mkConstS k n) j = mkConst (k + 3 * (j : Int)) := by simp [el, mkConstS, h]
set_option maxHeartbeats 4000000 in
set_option maxRecDepth 100000 in
theorem markConstS (v1 : Value) (l : List Const) (k : Int) (w0 w : World) (lo : Nat) (ok : Nat → Prop) (hB : Below w0.heap.size w0 w) (hlo : w0.heap.size ≤ lo) (hr : kConst.R 100 w lo ok v1 l) (h0 : 0 ≤ k) (h1 : k + 3 * l.length ≤ 4611686018427387904) :
    Calls Try.prog 65 #[v1, .int .i64 k] w fun e w' => e = .returned (.int .i64 (k + 3 * (l.length : Int))) ∧ kConst.R 100 w' lo ok v1 (mkConstS k l.length) ∧ Below w0.heap.size w0 w' ∧ Kept w w' ok := by
  have HB := Aside0.mk hB
  have HO := Aside0.mk hr
  have HK := Aside0.mk (Kept.refl w ok)
  have HOK := Aside0.mk hr.1
  have hu := Try.underlying100
  obtain ⟨A, c, rfl⟩ := Kd.R_slice hr
  have hll : l.length ≤ 9223372036854775807 := by omega
  clear hB hr
  go_enter Try.func65, Try.ntmps65
  go_wp2
  go_loopw [1, 5] (fun u v wr => ∃ (j : Nat) (kk : Int) (xs : List Const), u = .int .i64 kk ∧ v = .int .i64 j ∧ Aside0 (kk = k + 3 * (j : Int)) ∧ j ≤ l.length ∧ xs.length = l.length ∧ Aside0 (∀ i : Nat, i < j → el zConst xs i = el zConst (mkConstS k l.length) i) ∧ Aside0 (kConst.R 100 wr lo ok (.slice A l.length c) xs) ∧ Aside0 (Below w0.heap.size w0 wr) ∧ Aside0 (Kept w wr ok)) (fun u v _ => l.length - (intOf v).toNat)
  case atStart => exact ⟨0, k, _, rfl, rfl, ⟨by simp⟩, by omega, rfl, ⟨fun i hi => by omega⟩, HO, HB, HK⟩
  case round =>
    clear HO HB HK
    obtain ⟨j, kk, xs, rfl, rfl, HKK, hj, hn, HE, HO, HB, HK⟩ := hrel
    have hkk : 0 ≤ kk ∧ kk ≤ 4611686018427387904 := by have := HKK.out; omega
    by_cases hlt : j < l.length
    · have hb2 : (j : Int) < (l.length : Int) := by omega
      have hj0 : (0 : Int) ≤ (j : Int) := by omega
      have hk3 : kk + 3 ≤ 4611686018427387904 := by have := HKK.out; omega
      obtain ⟨go, co, hv, gb, gl, cl0, HG0⟩ := Kd.R_form HO.out (by omega)
      rw [hn] at hv
      have hg : ok go := HOK.out go (by rw [hv]; simp [Value.ownBlock])
      injection hv with hA _ hc
      subst hA; subst hc; clear HG0
      obtain ⟨ce, hcl, hM, hcc, hfr⟩ := Kd.R_elem HO.out zConst (j : Int) (by omega) (by omega)
      have hce := kConst_openM hM; subst hce
      rw [Int.toNat_natCast] at hcc hfr
      have y0 := hcc 0 _ rfl; replace y0 : wr.cell? ⟨go, j * 3, none⟩ = _ := y0; have f0 := hfr 0; replace f0 : wr.frozen? ⟨go, j * 3, none⟩ = false := f0
      have y1 := hcc 1 _ rfl; replace y1 : wr.cell? ⟨go, j * 3 + 1, none⟩ = _ := y1; have f1 := hfr 1; replace f1 : wr.frozen? ⟨go, j * 3 + 1, none⟩ = false := f1
      have y2 := hcc 2 _ rfl; replace y2 : wr.cell? ⟨go, j * 3 + 2, none⟩ = _ := y2; have f2 := hfr 2; replace f2 : wr.frozen? ⟨go, j * 3 + 2, none⟩ = false := f2
      have HP := Aside0.mk (Kd.R_seg HO.out (j : Int) (by omega) (by omega) (seg := [.int .i64 kk, .int .u64 (kk + 1)]) (j := 0) hcl (by rw [Int.toNat_natCast]; exact hcc) (show 2 ≤ 3 from by decide) (x' := ⟨kk, kk + 1, (xs.getD j zConst).text⟩) (kConst_mkM _ _ _ ⟨kk, kk + 1, (xs.getD j zConst).text⟩) (fun _ hk => hk)).1
      have GB := Aside0.mk gb; have GK := Aside0.mk hg
      have HB2 := Aside0.mk (below_set (below_set HB.out (Nat.le_trans hlo gb) (j := j * 3) (v := .int .i64 kk)) (Nat.le_trans hlo gb) (j := j * 3 + 1) (v := .int .u64 (kk + 1)))
      have HK2 := Aside0.mk (Kept.setCell (Kept.setCell HK.out (p := ⟨go, j * 3, none⟩) (.inl hg) (.int .i64 kk)) (p := ⟨go, j * 3 + 1, none⟩) (.inl hg) (.int .u64 (kk + 1)))
      have hw1 : IntKind.u64.wrap (kk + 1) = kk + 1 := IntWalk.u64_in _ (by omega)
      have hx2 := pw_cell_below (Below.refl _ _) y2
      clear gb gl hcl hcc hfr hM hg
      go_wp2_with fail
      refine (laws_markText.calls 31 (kk + 1 + 1) (mkText (kk + 1 + 1)) _ (text_ok (by omega) (by omega))).mono ?_; rintro e w2 ⟨rfl, hb⟩
      have HP1 : Aside0 (kConst.R 100 ((wr.setCell ⟨go, j * 3, none⟩ (.int .i64 kk)).setCell ⟨go, j * 3 + 1, none⟩ (.int .u64 (kk + 1))) lo ok (.slice (some ⟨go, 0, none⟩) l.length c) (xs.set j ⟨kk, kk + 1, (xs.getD j zConst).text⟩)) := HP
      have HP2 := Aside0.mk (Kd.R_below HP1.out hb)
      have HB3 := Aside0.mk (below_step HB2.out hb); have HK3 := Aside0.mk (Kept.below HK2.out hb)
      clear HP HP1 HB2 HK2 hb y0 y1 y2 f0 f1 f2 hx2
      obtain ⟨ce, hcl, hM, hcc, hfr⟩ := Kd.R_elem HP2.out zConst (j : Int) (by omega) (by omega)
      have hge : (xs.set j ⟨kk, kk + 1, (xs.getD j zConst).text⟩).getD j zConst = (⟨kk, kk + 1, (xs.getD j zConst).text⟩ : Const) := el_set_eq (by omega)
      rw [Int.toNat_natCast, hge] at hM
      have hce := kConst_openM hM; subst hce
      rw [Int.toNat_natCast] at hcc hfr
      have y2 := hcc 2 _ rfl; replace y2 : w2.cell? ⟨go, j * 3 + 2, none⟩ = _ := y2; have f2 := hfr 2; replace f2 : w2.frozen? ⟨go, j * 3 + 2, none⟩ = false := f2
      have HP := Aside0.mk (Kd.R_seg HP2.out (j : Int) (by omega) (by omega) (seg := [.string (mkText (kk + 1 + 1))]) (j := 2) hcl (by rw [Int.toNat_natCast]; exact hcc) (show 3 ≤ 3 from by decide) (x' := mkConst kk) (kConst_mkM _ _ _ (mkConst kk)) (fun _ hk => hk)).1
      rw [Int.toNat_natCast, List.set_set] at HP
      clear hcl hcc hfr hM hge
      go_wp2
      go_roundw
      case measure => simp [intOf]; omega
      case rel => exact ⟨j + 1, kk + 3, _, by first | rfl | (simp [Int.add_assoc]; done) | go_num, by go_num, ⟨by have := HKK.out; omega⟩, by omega, by simpa using hn, ⟨fun i hi => by rcases Nat.lt_succ_iff_lt_or_eq.1 hi with h | h; (rw [el_set_ne (by omega)]; exact HE.out i h); subst h; rw [el_mkConstS k hlt, ← HKK.out]; exact el_set_eq (by omega)⟩, HP, ⟨below_set HB3.out (Nat.le_trans hlo GB.out)⟩, ⟨Kept.setCell HK3.out (.inl GK.out) _⟩⟩
    · have hb2 : ¬ (j : Int) < (l.length : Int) := by omega
      have hj2 : j = l.length := by omega
      have he : xs = mkConstS k l.length := el_ext zConst (by rw [hn, mkConstS_len]) (fun i hi => HE.out i (by omega))
      subst he
      have hke := HKK.out
      rw [hj2] at hke
      subst hke
      go_wp2
      go_ret
      exact ⟨rfl, HO.out, HB.out, HK.out⟩
end Go.Proofs.Ytcbaokflimdjnaa
end
section
namespace Go.Proofs.Ytcbaokflimdjnaa
open Go.RowKit Go.Proofs.YtcbaokflimdjnaaW.PrintWords Go.Proofs.YtcbaokflimdjnaaW.PrintMore Go.Proofs.Ytcbaokflimdjnaa.Law Go.Proofs.Ytcbaokflimdjnaa.Num Go.Proofs.Ytcbaokflimdjnaa.QFnExactVerify
set_option linter.unusedVariables false
set_option linter.unusedSimpArgs false
set_option autoImplicit false
theorem ty_apart {w : World} {k : Nat} {E1 E2 : List Nat} (hd : ∀ a ∈ E1, ∀ b ∈ E2, a ≠ b) (h1 : ∃ q, q ∈ E1 ∧ ∃ cells, w.heap[k]? = some (.cells cells q (0, 0))) (h2 : ∃ q, q ∈ E2 ∧ ∃ cells, w.heap[k]? = some (.cells cells q (0, 0))) : False := by
  obtain ⟨a, ha, c1, e1⟩ := h1
  obtain ⟨b, hb, c2, e2⟩ := h2
  rw [e1] at e2
  injection e2 with e2
  injection e2 with _ e2
  exact hd a ha b hb e2
def cntFunc (x : Func) : Nat := 2 + 2 * x.caps.length + 3 * x.code.length + 3 * x.handlers.length
def mkFunc (x : Func) (k : Int) : Func := ⟨k, k + 1, mkCapS (k + 1 + 1) x.caps.length, mkInsS (k + 1 + 1 + 2 * (x.caps.length : Int)) x.code.length, mkHandlerS (k + 1 + 1 + 2 * (x.caps.length : Int) + 3 * (x.code.length : Int)) x.handlers.length⟩
def cntFuncs (l : List Func) : Nat := (l.map cntFunc).sum
def mkFuncS (k : Int) (l : List Func) : List Func := (List.range l.length).map (fun (j : Nat) => mkFunc (el zFunc l j) (k + (cntFuncs (l.take j) : Int)))
theorem mkFuncS_len (k : Int) (l : List Func) : (mkFuncS k l).length = l.length := by simp [mkFuncS]
theorem el_mkFuncS (k : Int) {l : List Func} {j : Nat} (h : j < l.length) : el zFunc (mkFuncS k l) j = mkFunc (el zFunc l j) (k + (cntFuncs (l.take j) : Int)) := by
  unfold mkFuncS
  rw [el_lt zFunc (by simpa using h), List.getElem_map, List.getElem_range]
theorem cnt_step {l : List Func} {j : Nat} (h : j < l.length) : cntFuncs (l.take (j + 1)) = cntFuncs (l.take j) + cntFunc (el zFunc l j) := by
  unfold cntFuncs
  rw [List.take_add_one, List.getElem?_eq_getElem h, List.map_append, List.sum_append, el_lt zFunc h]
  simp
theorem cnt_le (l : List Func) (j : Nat) : cntFuncs (l.take j) ≤ cntFuncs l := by
  have h : l.take j ++ l.drop j = l := List.take_append_drop j l
  have h2 : cntFuncs l = cntFuncs (l.take j) + cntFuncs (l.drop j) := by
    conv => lhs; rw [← h]
    unfold cntFuncs
    rw [List.map_append, List.sum_append]
  omega
set_option maxHeartbeats 8000000 in
set_option maxRecDepth 100000 in
theorem markFuncS (v1 : Value) (l : List Func) (k : Int) (w0 w : World) (lo : Nat) (ok : Nat → Prop) (hB : Below w0.heap.size w0 w) (hlo : w0.heap.size ≤ lo) (hr : Kd.S kFuncI 73 w lo ok v1 l) (h0 : 0 ≤ k) (h1 : k + (cntFuncs l : Int) ≤ 4611686018427387904) (hll : l.length ≤ 1048576) :
    Calls Try.prog 64 #[v1, .int .i64 k] w fun e w' => e = .returned (.int .i64 (k + (cntFuncs l : Int))) ∧ Kd.S kFuncI 73 w' lo ok v1 (mkFuncS k l) ∧ Below w0.heap.size w0 w' ∧ Kept w w' ok := by
  have HB := Aside0.mk hB
  have HO := Aside0.mk hr
  have HK := Aside0.mk (Kept.refl w ok)
  have HOK := Aside0.mk (Kd.S_R hr).1
  have hu := Try.underlying73
  obtain ⟨A, c, rfl⟩ := Kd.S_slice hr
  clear hB hr
  go_enter Try.func64, Try.ntmps64
  go_wp2
  go_loopw [1, 5] (fun u v wr => ∃ (j : Nat) (kk : Int) (xs : List Func), u = .int .i64 kk ∧ v = .int .i64 j ∧ Aside0 (kk = k + (cntFuncs (l.take j) : Int)) ∧ j ≤ l.length ∧ xs.length = l.length ∧ Aside0 (∀ i : Nat, i < j → el zFunc xs i = el zFunc (mkFuncS k l) i) ∧ Aside0 (∀ i : Nat, j ≤ i → el zFunc xs i = el zFunc l i) ∧ Aside0 (Kd.S kFuncI 73 wr lo ok (.slice A l.length c) xs) ∧ Aside0 (Below w0.heap.size w0 wr) ∧ Aside0 (Kept w wr ok)) (fun u v _ => l.length - (intOf v).toNat)
  case atStart => exact ⟨0, k, l, rfl, rfl, ⟨by simp [cntFuncs]⟩, by omega, rfl, ⟨fun i hi => by omega⟩, ⟨fun i hi => rfl⟩, HO, HB, HK⟩
  case round =>
    clear HO HB HK
    obtain ⟨j, kk, xs, rfl, rfl, HKK, hj, hn, HE, HE2, HO, HB, HK⟩ := hrel
    by_cases hlt : j < l.length
    rotate_left
    · have hb2 : ¬ (j : Int) < (l.length : Int) := by omega
      have hj2 : j = l.length := by omega
      have he : xs = mkFuncS k l := el_ext zFunc (by rw [hn, mkFuncS_len]) (fun i hi => HE.out i (by omega))
      subst he
      have hke := HKK.out
      rw [hj2, List.take_length] at hke
      subst hke
      go_wp2
      go_ret
      exact ⟨rfl, HO.out, HB.out, HK.out⟩
    have hb2 : (j : Int) < (l.length : Int) := by omega
    have hj0 : (0 : Int) ≤ (j : Int) := by omega
    obtain ⟨y, hy⟩ : ∃ y, y = el zFunc l j := ⟨_, rfl⟩
    have HCN := Aside0.mk (cnt_step hlt)
    rw [← hy] at HCN
    have HY := Aside0.mk hy; clear hy
    have hkb : 0 ≤ kk ∧ kk + 2 + 2 * y.caps.length + 3 * y.code.length + 3 * y.handlers.length ≤ 4611686018427387904 := by
      have h1 := HKK.out; have h2 := HCN.out; have h3 := cnt_le l (j + 1)
      unfold cntFunc at h2
      omega
    have hkk : 0 ≤ kk ∧ kk ≤ 4611686018427387904 := by omega
    obtain ⟨go, co, hv, gb, gl, HG0⟩ := Kd.S_form HO.out (by omega)
    rw [hn] at hv
    have hg : ok go := HOK.out go (by rw [hv]; simp [Value.ownBlock])
    injection hv with hA _ hc
    subst hA; subst hc; clear HG0
    obtain ⟨oki, c1, hcl, hM, hcc, hfr, hoki, hH⟩ := Kd.S_elem HO.out zFunc (j : Int) (by omega) (by omega)
    rw [Int.toNat_natCast, show xs.getD j zFunc = y from by rw [HY.out]; exact HE2.out j (Nat.le_refl _)] at hM
    obtain ⟨v2, v3, v4, rfl, r2, r3, r4⟩ := kFuncI_openM hM
    rw [Int.toNat_natCast] at hcc hfr
    have y0 := hcc 0 _ rfl; replace y0 : wr.cell? ⟨go, j * 5, none⟩ = _ := y0; have f0 := hfr 0; replace f0 : wr.frozen? ⟨go, j * 5, none⟩ = false := f0
    have y1 := hcc 1 _ rfl; replace y1 : wr.cell? ⟨go, j * 5 + 1, none⟩ = _ := y1; have f1 := hfr 1; replace f1 : wr.frozen? ⟨go, j * 5 + 1, none⟩ = false := f1
    have hS := Kd.H_seg hH (by omega) (by omega) (seg := [.int .i64 kk, .int .i64 (kk + 1)]) (j := 0) (show 2 ≤ 5 from by decide) (by intro q hq; simp at hq; rcases hq with rfl | rfl <;> rfl)
    have hF := fun (b : Nat) (hb : oki b) => (hoki b hb).2
    have S1 : Aside0 (Kd.S kFuncI 73 ((wr.setCell ⟨go, j * 5, none⟩ (.int .i64 kk)).setCell ⟨go, j * 5 + 1, none⟩ (.int .i64 (kk + 1))) lo ok (.slice (some ⟨go, 0, none⟩) l.length c) (xs.set j ⟨kk, kk + 1, y.caps, y.code, y.handlers⟩)) :=
      ⟨Kd.H_back hS.1 (kFuncI_mkM _ _ _ ⟨kk, kk + 1, y.caps, y.code, y.handlers⟩ (Kd.R_far (Kd.R_far r2 (p := ⟨go, j * 5, none⟩) hF (.int .i64 kk)) (p := ⟨go, j * 5 + 1, none⟩) hF (.int .i64 (kk + 1))) (Kd.R_far (Kd.R_far r3 (p := ⟨go, j * 5, none⟩) hF (.int .i64 kk)) (p := ⟨go, j * 5 + 1, none⟩) hF (.int .i64 (kk + 1))) (Kd.R_far (Kd.R_far r4 (p := ⟨go, j * 5, none⟩) hF (.int .i64 kk)) (p := ⟨go, j * 5 + 1, none⟩) hF (.int .i64 (kk + 1)))) (fun _ h => h)⟩
    have B1 := Aside0.mk (below_set (below_set HB.out (Nat.le_trans hlo gb) (j := j * 5) (v := .int .i64 kk)) (Nat.le_trans hlo gb) (j := j * 5 + 1) (v := .int .i64 (kk + 1)))
    have K1 := Aside0.mk (Kept.setCell (Kept.setCell HK.out (p := ⟨go, j * 5, none⟩) (.inl hg) (.int .i64 kk)) (p := ⟨go, j * 5 + 1, none⟩) (.inl hg) (.int .i64 (kk + 1)))
    have GB := Aside0.mk gb
    clear hcl hM hcc hfr hoki hH hS hF r2 r3 r4 gb gl hg
    go_upto_region 8 with fail
    clear y0 y1 f0 f1
    generalize (wr.setCell ⟨go, j * 5, none⟩ (.int .i64 kk)).setCell ⟨go, j * 5 + 1, none⟩ (.int .i64 (kk + 1)) = w1 at S1 B1 K1 ⊢
    have hx1 : (xs.set j ⟨kk, kk + 1, y.caps, y.code, y.handlers⟩).length = l.length := by simpa using hn
    obtain ⟨oki, c1, hcl, hM, hcc, hfr, hoki, hH⟩ := Kd.S_elem S1.out zFunc (j : Int) (by omega) (by omega)
    rw [Int.toNat_natCast, show (xs.set j (⟨kk, kk + 1, y.caps, y.code, y.handlers⟩ : Func)).getD j zFunc = (⟨kk, kk + 1, y.caps, y.code, y.handlers⟩ : Func) from el_set_eq (by omega)] at hM
    obtain ⟨v2, v3, v4, rfl, r2, r3, r4⟩ := kFuncI_openM hM
    rw [Int.toNat_natCast] at hcc
    obtain ⟨B, d, hvb⟩ := Kd.R_slice r2; have yb := hcc 2 _ rfl; replace yb : w1.cell? ⟨go, j * 5 + 2, none⟩ = _ := yb
    rw [hvb] at yb
    have RB := Aside0.mk (Kd.R_bound r2)
    rw [hvb] at RB
    have Q3 := Aside0.mk (Kd.R_bound r3)
    have Q4 := Aside0.mk (Kd.R_bound r4)
    have HH := Aside0.mk hH; have HI := Aside0.mk hoki; have HV := Aside0.mk hvb
    clear hcl hM hcc hfr hoki hH r2 r3 r4 hvb
    go_wp2_with fail
    refine (markCapS _ y.caps (kk + 1 + 1) w0 _ lo _ B1.out hlo RB.out (by omega) (by omega)).mono ?_; rintro e w2 ⟨rfl, hr, hb, hk⟩
    rw [← HV.out] at hr
    have S2 := Aside0.mk (Kd.H_back (Kd.H_kept HH.out hk (fun k _ hn h2 => hn h2.1)) (kFuncI_mkM _ _ _ (⟨kk, kk + 1, mkCapS (kk + 1 + 1) y.caps.length, y.code, y.handlers⟩ : Func) (Kd.R_mono hr (fun k hk => hk.1)) (Kd.R_mono (Kd.R_kept Q3.out hk (fun k h1 h2 => ty_apart (E1 := 76 :: kIns.E) (E2 := 105 :: kCap.E) (by decide) h1.2.2.2 h2.2.2.2)) (fun k hk => hk.1)) (Kd.R_mono (Kd.R_kept Q4.out hk (fun k h1 h2 => ty_apart (E1 := 107 :: kHandler.E) (E2 := 105 :: kCap.E) (by decide) h1.2.2.2 h2.2.2.2)) (fun k hk => hk.1))) (fun _ h => h))
    rw [Int.toNat_natCast, List.set_set] at S2
    have B2 := Aside0.mk hb; have K2 := Aside0.mk (Kept.then_ K1.out hk (fun k h => .inl (HI.out k h.1).1))
    have hx2 : (xs.set j (⟨kk, kk + 1, mkCapS (kk + 1 + 1) y.caps.length, y.code, y.handlers⟩ : Func)).length = l.length := by simpa using hn
    clear hr hb hk yb RB HH HI HV S1 B1 K1 Q3 Q4 hx1
    obtain ⟨oki, c1, hcl, hM, hcc, hfr, hoki, hH⟩ := Kd.S_elem S2.out zFunc (j : Int) (by omega) (by omega)
    rw [Int.toNat_natCast, show (xs.set j (⟨kk, kk + 1, mkCapS (kk + 1 + 1) y.caps.length, y.code, y.handlers⟩ : Func)).getD j zFunc = (⟨kk, kk + 1, mkCapS (kk + 1 + 1) y.caps.length, y.code, y.handlers⟩ : Func) from el_set_eq (by omega)] at hM
    obtain ⟨v2, v3, v4, rfl, r2, r3, r4⟩ := kFuncI_openM hM
    rw [Int.toNat_natCast] at hcc
    obtain ⟨B, d, hvb⟩ := Kd.R_slice r3; have yb := hcc 3 _ rfl; replace yb : w2.cell? ⟨go, j * 5 + 3, none⟩ = _ := yb
    rw [hvb] at yb
    have RB := Aside0.mk (Kd.R_bound r3)
    rw [hvb] at RB
    have Q2 := Aside0.mk (Kd.R_bound r2)
    have Q4 := Aside0.mk (Kd.R_bound r4)
    have HH := Aside0.mk hH; have HI := Aside0.mk hoki; have HV := Aside0.mk hvb
    clear hcl hM hcc hfr hoki hH r2 r3 r4 hvb
    go_wp2_with fail
    refine (markInsS _ y.code (kk + 1 + 1 + 2 * (y.caps.length : Int)) w0 _ lo _ B2.out hlo RB.out (by omega) (by omega)).mono ?_; rintro e w3 ⟨rfl, hr, hb, hk⟩
    rw [← HV.out] at hr
    have S3 := Aside0.mk (Kd.H_back (Kd.H_kept HH.out hk (fun k _ hn h2 => hn h2.1)) (kFuncI_mkM _ _ _ (⟨kk, kk + 1, mkCapS (kk + 1 + 1) y.caps.length, mkInsS (kk + 1 + 1 + 2 * (y.caps.length : Int)) y.code.length, y.handlers⟩ : Func) (Kd.R_mono (Kd.R_kept Q2.out hk (fun k h1 h2 => ty_apart (E1 := 105 :: kCap.E) (E2 := 76 :: kIns.E) (by decide) h1.2.2.2 h2.2.2.2)) (fun k hk => hk.1)) (Kd.R_mono hr (fun k hk => hk.1)) (Kd.R_mono (Kd.R_kept Q4.out hk (fun k h1 h2 => ty_apart (E1 := 107 :: kHandler.E) (E2 := 76 :: kIns.E) (by decide) h1.2.2.2 h2.2.2.2)) (fun k hk => hk.1))) (fun _ h => h))
    rw [Int.toNat_natCast, List.set_set] at S3
    have B3 := Aside0.mk hb; have K3 := Aside0.mk (Kept.then_ K2.out hk (fun k h => .inl (HI.out k h.1).1))
    have hx3 : (xs.set j (⟨kk, kk + 1, mkCapS (kk + 1 + 1) y.caps.length, mkInsS (kk + 1 + 1 + 2 * (y.caps.length : Int)) y.code.length, y.handlers⟩ : Func)).length = l.length := by simpa using hn
    clear hr hb hk yb RB HH HI HV S2 B2 K2 Q2 Q4 hx2
    obtain ⟨oki, c1, hcl, hM, hcc, hfr, hoki, hH⟩ := Kd.S_elem S3.out zFunc (j : Int) (by omega) (by omega)
    rw [Int.toNat_natCast, show (xs.set j (⟨kk, kk + 1, mkCapS (kk + 1 + 1) y.caps.length, mkInsS (kk + 1 + 1 + 2 * (y.caps.length : Int)) y.code.length, y.handlers⟩ : Func)).getD j zFunc = (⟨kk, kk + 1, mkCapS (kk + 1 + 1) y.caps.length, mkInsS (kk + 1 + 1 + 2 * (y.caps.length : Int)) y.code.length, y.handlers⟩ : Func) from el_set_eq (by omega)] at hM
    obtain ⟨v2, v3, v4, rfl, r2, r3, r4⟩ := kFuncI_openM hM
    rw [Int.toNat_natCast] at hcc
    obtain ⟨B, d, hvb⟩ := Kd.R_slice r4; have yb := hcc 4 _ rfl; replace yb : w3.cell? ⟨go, j * 5 + 4, none⟩ = _ := yb
    rw [hvb] at yb
    have RB := Aside0.mk (Kd.R_bound r4)
    rw [hvb] at RB
    have Q2 := Aside0.mk (Kd.R_bound r2)
    have Q3 := Aside0.mk (Kd.R_bound r3)
    have HH := Aside0.mk hH; have HI := Aside0.mk hoki; have HV := Aside0.mk hvb
    clear hcl hM hcc hfr hoki hH r2 r3 r4 hvb
    go_wp2_with fail
    refine (markHandlerS _ y.handlers (kk + 1 + 1 + 2 * (y.caps.length : Int) + 3 * (y.code.length : Int)) w0 _ lo _ B3.out hlo RB.out (by omega) (by omega)).mono ?_; rintro e w4 ⟨rfl, hr, hb, hk⟩
    rw [← HV.out] at hr
    have S4 := Aside0.mk (Kd.H_back (Kd.H_kept HH.out hk (fun k _ hn h2 => hn h2.1)) (kFuncI_mkM _ _ _ (⟨kk, kk + 1, mkCapS (kk + 1 + 1) y.caps.length, mkInsS (kk + 1 + 1 + 2 * (y.caps.length : Int)) y.code.length, mkHandlerS (kk + 1 + 1 + 2 * (y.caps.length : Int) + 3 * (y.code.length : Int)) y.handlers.length⟩ : Func) (Kd.R_mono (Kd.R_kept Q2.out hk (fun k h1 h2 => ty_apart (E1 := 105 :: kCap.E) (E2 := 107 :: kHandler.E) (by decide) h1.2.2.2 h2.2.2.2)) (fun k hk => hk.1)) (Kd.R_mono (Kd.R_kept Q3.out hk (fun k h1 h2 => ty_apart (E1 := 76 :: kIns.E) (E2 := 107 :: kHandler.E) (by decide) h1.2.2.2 h2.2.2.2)) (fun k hk => hk.1)) (Kd.R_mono hr (fun k hk => hk.1))) (fun _ h => h))
    rw [Int.toNat_natCast, List.set_set] at S4
    have B4 := Aside0.mk hb; have K4 := Aside0.mk (Kept.then_ K3.out hk (fun k h => .inl (HI.out k h.1).1))
    have hx4 : (xs.set j (⟨kk, kk + 1, mkCapS (kk + 1 + 1) y.caps.length, mkInsS (kk + 1 + 1 + 2 * (y.caps.length : Int)) y.code.length, mkHandlerS (kk + 1 + 1 + 2 * (y.caps.length : Int) + 3 * (y.code.length : Int)) y.handlers.length⟩ : Func)).length = l.length := by simpa using hn
    clear hr hb hk yb RB HH HI HV S3 B3 K3 Q2 Q3 hx3
    go_wp2
    go_roundw
    case measure => simp [intOf]; omega
    case rel =>
      refine ⟨j + 1, kk + 1 + 1 + 2 * (y.caps.length : Int) + 3 * (y.code.length : Int) + 3 * (y.handlers.length : Int), _, by first | rfl | go_num, by go_num, ⟨?_⟩, by omega, hx4, ⟨fun i hi => ?_⟩, ⟨fun i hi => ?_⟩, S4, B4, K4⟩
      · have h1 := HKK.out; have h2 := HCN.out; unfold cntFunc at h2; omega
      · rcases Nat.lt_succ_iff_lt_or_eq.1 hi with h | h
        · rw [el_set_ne (by omega)]; exact HE.out i h
        · subst h
          rw [el_mkFuncS k hlt, ← HKK.out, ← HY.out]
          exact el_set_eq (by omega)
      · rw [el_set_ne (by omega)]; exact HE2.out i (by omega)
set_option maxHeartbeats 4000000 in
set_option maxRecDepth 100000 in
theorem markImage (x : Image) (cs : List Value) (k : Int) (w0 w : World) (lo : Nat) (ok : Nat → Prop) (hB : Below w0.heap.size w0 w) (hlo : w0.heap.size ≤ lo) (hok : ∀ b, ok b → b < w.heap.size) (hm : kImageA.M w lo ok x cs) (h0 : 0 ≤ k) (h1 : k + (cntFuncs x.funcs : Int) + 3 * (x.consts.length : Int) ≤ 4611686018427387904) (hl : x.funcs.length ≤ 1048576) :
    Calls Try.prog 20 #[.agg ⟨cs⟩, .int .i64 k] w fun e w' => e = .returned (.int .i64 (k + (cntFuncs x.funcs : Int) + 3 * (x.consts.length : Int))) ∧ kImageA.M w' lo ok ⟨mkFuncS k x.funcs, mkConstS (k + (cntFuncs x.funcs : Int)) x.consts.length⟩ cs ∧ Below w0.heap.size w0 w' ∧ Kept w w' ok := by
  obtain ⟨v0, v1, rfl, hs, hr⟩ := kImageA_openM hm
  obtain ⟨A0, c0, rfl⟩ := Kd.S_slice hs
  obtain ⟨A1, c1, rfl⟩ := Kd.R_slice hr
  clear hm
  have hu := Try.underlying37
  have HS := Aside0.mk (Kd.S_bound (Kd.S_below hs (below_alloc (Below.refl w.heap.size w) (.cells #[.slice A0 x.funcs.length c0, .slice A1 x.consts.length c1] 37))))
  have HR := Aside0.mk (Kd.R_bound (Kd.R_below hr (below_alloc (Below.refl w.heap.size w) (.cells #[.slice A0 x.funcs.length c0, .slice A1 x.consts.length c1] 37))))
  have HB := Aside0.mk (below_alloc hB (.cells #[.slice A0 x.funcs.length c0, .slice A1 x.consts.length c1] 37))
  have HK := Aside0.mk ((Kept.refl w ok).alloc (.cells #[.slice A0 x.funcs.length c0, .slice A1 x.consts.length c1] 37))
  clear hs hr hB
  go_enter Try.func20, Try.ntmps20
  go_wp2_with fail
  refine (markFuncS _ x.funcs k w0 _ lo _ HB.out hlo HS.out h0 (by omega) hl).mono ?_
  rintro e w1 ⟨rfl, hs, hb, hk⟩
  have HR1 := Aside0.mk (Kd.R_kept HR.out hk (fun k h1 h2 => ty_apart (E1 := 100 :: kConst.E) (E2 := 73 :: kFuncI.E) (by decide) h1.2.2.2 h2.2.2.2))
  have HS1 := Aside0.mk (Kd.S_bound (Kd.S_mono hs (fun k h => h.1))); have HB1 := Aside0.mk hb; have HK1 := Aside0.mk (HK.out.then_ hk (fun b hb => .inl hb.1))
  have hbx := (hk.2 w.heap.size (by simp) (fun h => by have := hok _ h.1; omega)).trans (blk_new w (.cells #[.slice A0 x.funcs.length c0, .slice A1 x.consts.length c1] 37))
  have zb := fun o => blk_cell hbx o
  clear hs hb hk HS HR HB HK hbx
  go_wp2_with fail
  clear zb
  refine (markConstS _ x.consts (k + (cntFuncs x.funcs : Int)) w0 _ lo _ HB1.out hlo (Kd.R_bound HR1.out) (by omega) (by omega)).mono ?_
  rintro e w2 ⟨rfl, hr, hb, hk⟩
  have HS2 := Aside0.mk (Kd.S_kept HS1.out hk (fun k h1 h2 => ty_apart (E1 := 73 :: kFuncI.E) (E2 := 100 :: kConst.E) (by decide) h1.2.2.2 h2.2.2.2))
  have HR2 := Aside0.mk hr; have HB2 := Aside0.mk hb; have HK2 := Aside0.mk (HK1.out.then_ hk (fun b hb => .inl hb.1.1))
  clear hr hb hk HS1 HR1 HB1 HK1
  go_wp2
  go_ret
  have e1 : (mkFuncS k x.funcs).length = x.funcs.length := mkFuncS_len _ _
  have e2 : (mkConstS (k + (cntFuncs x.funcs : Int)) x.consts.length).length = x.consts.length := mkConstS_len _ _
  exact ⟨rfl, kImageA_mkM _ _ _ ⟨mkFuncS k x.funcs, mkConstS (k + (cntFuncs x.funcs : Int)) x.consts.length⟩ (Kd.S_mono HS2.out (fun k h => h.1)) (Kd.R_mono HR2.out (fun k h => h.1.1)), HB2.out, HK2.out⟩
end Go.Proofs.Ytcbaokflimdjnaa
end
section
namespace Go.Proofs.Ytcbaokflimdjnaa.LawFnExactStates
open Go.RowKit Go.Proofs.YtcbaokflimdjnaaW.PrintWords Go.Proofs.YtcbaokflimdjnaaW.PrintLast Go.Proofs.Ytcbaokflimdjnaa.Steps Go.Proofs.YtcbaokflimdjnaaW.PrintMore Go.Proofs.Ytcbaokflimdjnaa.Law Go.Proofs.Ytcbaokflimdjnaa.Num Go.Proofs.Ytcbaokflimdjnaa Go.Proofs.Ytcbaokflimdjnaa.Flow
set_option linter.unusedVariables false
set_option linter.unusedSimpArgs false
set_option autoImplicit false
def law.T10 : Bool × List (List Nat × List Nat) := (true, [([], []), ([], []), ([1], [1]), ([0, 2, 2], [0, 2]), ([3], [3])])
def law.B10 : List Nat := [0, 0, 2, 7, 15]
theorem law.tab10 : rtab .any (opsOf Try.f7 10) = law.T10 := by kernel_rfl
theorem law.bits10 : waitsOk law.T10.2 law.B10 = true := by kernel_rfl
theorem mem_sub {w W : World} {H H2 : List Hold} (h : Mem w W H) (hs : H2.Sublist H) : Mem w W H2 :=
  ⟨h.below, fun x hx => h.says x (hs.subset hx), fun x hx => h.fits x (hs.subset hx), h.apart.sublist hs⟩
theorem st_few (x : Image) (fn : Int) : (stList x fn).length ≤ 300 ∧ (stReached x fn).length ≤ 300 ∧ ∀ y ∈ stList x fn, y.regs.length ≤ 40 := by
  unfold stList stReached
  by_cases h : stOk x fn = true
  · rw [if_pos h, if_pos h]
    have hk : okFn x fn = true := by unfold stOk at h; rw [Bool.and_eq_true] at h; exact h.1
    unfold okFn at hk
    rw [Bool.and_eq_true] at hk
    have hf := of_decide_eq_true hk.2
    have ok := fn_ok hk.1 (el_mem zFunc (show fn.toNat < x.funcs.length by omega))
    have h1 := final_len (x := x) ok.rg.1 ok.pr.1
    have h2 := ok.kl.2
    have h3 := ok.rg
    exact ⟨by rw [show (flowOf x fn).list.length = _ from h1.1]; exact h2, by rw [show (flowOf x fn).reached.length = _ from h1.2]; exact h2, fun y hy => Nat.le_trans (final_small (x := x) ok.rg.1 ok.pr.1 y hy) (by omega)⟩
  · rw [if_neg h, if_neg h]
    exact ⟨Nat.zero_le _, Nat.zero_le _, fun y hy => absurd hy List.not_mem_nil⟩
theorem cntS_big : ∀ {l : List State}, (∀ y ∈ l, y.regs.length ≤ 40) → cntSts l ≤ l.length * 41 := by
  unfold cntSts
  intro l
  induction l with
  | nil => intro _; simp
  | cons a l ih =>
    intro h
    rw [List.map_cons, List.sum_cons, List.length_cons]
    have h1 := ih (fun y hy => h y (List.mem_cons_of_mem _ hy))
    have h2 := h a List.mem_cons_self
    have h3 : cntState a ≤ 41 := by unfold cntState; omega
    omega
/-- What States hands back: states whose rows lie apart, and marks. -/
def kAns : Kd (List State × List Bool) := Kd.pair (sliceS 31 kStateI) (Kd.slice 4 Kd.bool)
def kAnsR : Kd (List State × List Bool) := Kd.pair (Kd.slice 31 kStateI) (Kd.slice 4 Kd.bool)
theorem ansR_C {w : World} {base : Nat} {ok : Nat → Prop} {r : List State} {q : List Bool} {A A2 : Option Addr} {c c2 : Nat} (h : kAnsR.M w base ok (r, q) [.slice A r.length c, .slice A2 q.length c2]) : kStateI.C w A r.length r ∧ Kd.bool.C w A2 q.length q := by
  obtain ⟨_, _, e, ⟨v0, rfl, g0⟩, ⟨v1, rfl, g1⟩⟩ := h
  injection e with e0 e1
  injection e1 with e1 _
  subst e0; subst e1
  exact ⟨(Kd.R_reads' g0).2.2, (Kd.R_reads' g1).2.2⟩
theorem ans_M {w : World} {base : Nat} {ok : Nat → Prop} {r : List State} {q : List Bool} {v0 v1 : Value} (h : kAns.M w base ok (r, q) [v0, v1]) : Kd.S kStateI 31 w base ok v0 r ∧ Kd.bool.R 4 w base ok v1 q := by
  obtain ⟨_, _, e, ⟨v0, rfl, g0⟩, ⟨v1, rfl, g1⟩⟩ := h
  injection e with e0 e1
  injection e1 with e1 _
  subst e0; subst e1
  exact ⟨g0, g1⟩
theorem ans_C {w : World} {base : Nat} {ok : Nat → Prop} {r : List State} {q : List Bool} {A A2 : Option Addr} {n n2 c c2 : Nat} (h : kAns.M w base ok (r, q) [.slice A n c, .slice A2 n2 c2]) : kStateI.C w A r.length r ∧ Kd.bool.C w A2 q.length q := ⟨(Kd.R_reads' (Kd.S_R (ans_M h).1)).2.2, (Kd.R_reads' (ans_M h).2).2.2⟩
theorem ans_mk {w : World} {base : Nat} {ok : Nat → Prop} {r : List State} {q : List Bool} {v0 v1 : Value} (h0 : Kd.S kStateI 31 w base ok v0 r) (h1 : Kd.bool.R 4 w base ok v1 q) : kAns.M w base ok (r, q) [v0, v1] := ⟨_, _, rfl, ⟨_, rfl, h0⟩, ⟨_, rfl, h1⟩⟩
theorem ansR_mk {w : World} {base : Nat} {ok : Nat → Prop} {r : List State} {q : List Bool} {v0 v1 : Value} (h0 : kStateI.R 31 w base ok v0 r) (h1 : Kd.bool.R 4 w base ok v1 q) : kAnsR.M w base ok (r, q) [v0, v1] := ⟨_, _, rfl, ⟨_, rfl, h0⟩, ⟨_, rfl, h1⟩⟩
theorem markA1 (v0 v1 : Value) (r : List State) (q : List Bool) (k : Int) (w0 w : World) (lo : Nat) (ok : Nat → Prop) (hB : Below w0.heap.size w0 w) (hlo : w0.heap.size ≤ lo) (h : kAns.M w lo ok (r, q) [v0, v1]) (h0 : 0 ≤ k) (h1 : k + (cntSts r : Int) ≤ 4611686018427387904) (hll : r.length ≤ 1048576) :
    Calls Try.prog 33 #[v0, .int .i64 k] w fun e w' => e = .returned (.int .i64 (k + (cntSts r : Int))) ∧ kAns.M w' lo ok (mkSts k r, q) [v0, v1] ∧ Below w0.heap.size w0 w' ∧ Kept w w' ok := by
  obtain ⟨hs, hr⟩ := ans_M h
  refine (markStateS v0 r k w0 w lo _ hB hlo (Kd.S_bound hs) h0 h1 hll).mono ?_
  rintro e w1 ⟨rfl, hs1, hb, hk⟩
  exact ⟨rfl, ans_mk (Kd.S_mono hs1 (fun _ hk => hk.1)) (Kd.R_mono (Kd.R_kept (Kd.R_bound hr) hk (fun k h1 h2 => ty_apart (E1 := 4 :: Kd.bool.E) (E2 := 31 :: kStateI.E) (by decide) h1.2.2.2 h2.2.2.2)) (fun _ hk => hk.1)), hb, (Kept.refl w ok).then_ hk (fun b hb => .inl hb.1)⟩
theorem markA2 (v0 v1 : Value) (r : List State) (q : List Bool) (k : Int) (w0 w : World) (lo : Nat) (ok : Nat → Prop) (hB : Below w0.heap.size w0 w) (hlo : w0.heap.size ≤ lo) (h : kAns.M w lo ok (r, q) [v0, v1]) (h0 : 0 ≤ k) (h1 : k + (q.length : Int) ≤ 4611686018427387904) :
    Calls Try.prog 34 #[v1, .int .i64 k] w fun e w' => e = .returned (.int .i64 (k + (q.length : Int))) ∧ kAns.M w' lo ok (r, mkBools k q.length) [v0, v1] ∧ Below w0.heap.size w0 w' ∧ Kept w w' ok := by
  obtain ⟨hs, hr⟩ := ans_M h
  refine (markBoolS v1 q k w0 w lo _ hB hlo (Kd.R_bound hr) h0 h1).mono ?_
  rintro e w1 ⟨rfl, hr1, hb, hk⟩
  exact ⟨rfl, ans_mk (Kd.S_mono (Kd.S_kept (Kd.S_bound hs) hk (fun k h1 h2 => ty_apart (E1 := 31 :: kStateI.E) (E2 := 4 :: Kd.bool.E) (by decide) h1.2.2.2 h2.2.2.2)) (fun _ hk => hk.1)) (Kd.R_mono hr1 (fun _ hk => hk.1)), hb, (Kept.refl w ok).then_ hk (fun b hb => .inl hb.1)⟩
theorem cnt_big {l : List Func} (h : ∀ y ∈ l, LenFunc y) : cntFuncs l ≤ l.length * 8388610 := by
  unfold cntFuncs
  induction l with
  | nil => simp
  | cons a l ih =>
    rw [List.map_cons, List.sum_cons, List.length_cons]
    have h1 := ih (fun y hy => h y (List.mem_cons_of_mem _ hy))
    have h2 := h a List.mem_cons_self
    unfold LenFunc at h2
    have h3 : cntFunc a ≤ 8388610 := by unfold cntFunc; omega
    omega
set_option maxHeartbeats 8000000 in
set_option maxRecDepth 100000 in
theorem w1 (x : Image) (fn : Int) (A0 A1 : Option Addr) (c0 c1 : Nat) (w : World) (hx : kImageL.K w x [.slice A0 x.funcs.length c0, .slice A1 x.consts.length c1]) (gx : GoodImage x) (e1 : sub 1048576 (sizeImage x) = -1) :
    Calls Try.prog 7 #[.agg #[.slice A0 x.funcs.length c0, .slice A1 x.consts.length c1], .int .i64 fn] w fun e w' => e = .returned (.bool true) ∧ Below w.heap.size w w' := by
  have hu := Try.underlying25; have hu2 := Try.underlying37; have hu3 := Try.underlying48; have hu4 := Try.underlying49
  have HX := Aside0.mk hx; clear hx
  have M0 := Aside0.mk ((Mem.start w).allocAt rfl #[.slice A0 x.funcs.length c0, .slice A1 x.consts.length c1] 25)
  have z0 := M0.out.box (.head _)
  go_enter Try.func7, Try.ntmps7
  go_wp2_with fail
  have C := szImage x _ 1048576 _ (M0.out.old HX.out) gx (by omega) (by omega)
  rw [e1] at C
  refine C.mono ?_; clear C
  rintro e w1 ⟨rfl, hb⟩
  have M1 := Aside0.mk (M0.out.step hb); clear M0 hb z0; have z0 := M1.out.box (.head _)
  go_wp2
  go_ret
  exact ⟨rfl, M1.out.below⟩
set_option maxHeartbeats 8000000 in
set_option maxRecDepth 100000 in
theorem w2 (x : Image) (fn : Int) (A0 A1 : Option Addr) (c0 c1 : Nat) (w : World) (hx : kImageL.K w x [.slice A0 x.funcs.length c0, .slice A1 x.consts.length c1]) (gx : GoodImage x) (s1 : Int) (e1 : sub 1048576 (sizeImage x) = s1) (n1 : 0 ≤ s1) (n2 : s1 ≤ 1048576) (hlx : LenImage x) (hn : ∀ y ∈ x.consts, 0 ≤ y.num ∧ y.num < 18446744073709551616) :
    Calls Try.prog 7 #[.agg #[.slice A0 x.funcs.length c0, .slice A1 x.consts.length c1], .int .i64 fn] w fun e w' => e = .returned (.bool true) ∧ Below w.heap.size w w' := by
  have hu := Try.underlying25; have hu2 := Try.underlying37; have hu3 := Try.underlying48; have hu4 := Try.underlying49
  have HX := Aside0.mk hx; clear hx
  have M0 := Aside0.mk ((Mem.start w).allocAt rfl #[.slice A0 x.funcs.length c0, .slice A1 x.consts.length c1] 25)
  have z0 := M0.out.box (.head _)
  go_enter Try.func7, Try.ntmps7
  go_wp2_with fail
  have C := szImage x _ 1048576 _ (M0.out.old HX.out) gx (by omega) (by omega)
  rw [e1] at C
  refine C.mono ?_; clear C
  rintro e w1 ⟨rfl, hb⟩
  have M1 := Aside0.mk (M0.out.step hb); clear M0 hb z0; have z0 := M1.out.box (.head _)
  have m1 : decide (s1 < 0) = false := by simp; omega
  obtain ⟨r, hr⟩ : ∃ r, r = stList x fn := ⟨_, rfl⟩
  obtain ⟨q, hq⟩ : ∃ q, q = stReached x fn := ⟨_, rfl⟩
  obtain ⟨b, hbq⟩ : ∃ b, b = stOk x fn := ⟨_, rfl⟩
  have hfew : r.length ≤ 300 ∧ q.length ≤ 300 ∧ cntSts r ≤ 12300 := by
    have h := st_few x fn
    rw [← hr, ← hq] at h
    have h2 := cntS_big h.2.2
    omega
  obtain ⟨f1, f2, f3⟩ := hfew
  have hbb : (b != b) = false := by simp
  have hbb2 : (!(b == b)) = false := by simp
  have HLX := Aside0.mk hlx; have HN := Aside0.mk hn; have HR := Aside0.mk hr; have HQ := Aside0.mk hq; have HBQ := Aside0.mk hbq
  clear hlx hn hr hq hbq
  go_wp2_with fail
  clear z0
  refine (toImageA x _ _ (M1.out.old HX.out) HLX.out).mono ?_; rintro e w21 ⟨ds, rfl, hm, hb⟩; obtain ⟨qw, dw, pw, ew, rfl, _, _, _, _⟩ := kImageI_open (kImageA_K _ x _ ▸ kImageA.K_of_M hm)
  have M21 := Aside0.mk (M1.out.push hb hm); clear hm hb M1
  go_wp2_with fail
  obtain ⟨q', d', p', e', h, i0, j0, i1, j1⟩ := kImageI_open (kImageA_K _ x _ ▸ M21.out.read (.head _))
  cases h
  have C := cSpStates x fn qw dw pw ew _ i0 j0 i1 j1 HN.out
  rw [← HR.out, ← HQ.out, ← HBQ.out] at C
  refine C.mono ?_; clear C i0 j0 i1 j1; rintro e w22 ⟨v1, v2, rfl, ho1, ho2, hb⟩; obtain ⟨XW, yW, rfl⟩ := Kd.R_slice ho1; obtain ⟨UW, tW, rfl⟩ := Kd.R_slice ho2
  have M22 := Aside0.mk (M21.out.push hb (ansR_mk ho1 ho2)); clear ho1 ho2 hb M21
  have M23 := Aside0.mk (mem_sub M22.out (List.Sublist.cons_cons _ (List.Sublist.cons _ (List.Sublist.cons_cons _ (List.Sublist.refl []))))); clear M22
  have z_bI := M23.out.box (.tail _ (.head _))
  go_wp2_with fail
  clear z_bI
  refine (toImageA x _ _ (M23.out.old HX.out) HLX.out).mono ?_; rintro e w24 ⟨ds, rfl, hm, hb⟩; obtain ⟨qx, dx, px, ex, rfl, _, _, _, _⟩ := kImageI_open (kImageA_K _ x _ ▸ kImageA.K_of_M hm)
  have M24 := Aside0.mk (M23.out.push hb hm); clear hm hb M23
  have N24 := Aside0.mk (M24.out.allocAt rfl #[.slice qx x.funcs.length dx, .slice px x.consts.length ex] 37); clear M24
  have z_bx := N24.out.box (.head _)
  go_wp2_with fail
  clear z_bx
  obtain ⟨q', d', p', e', h, i0, j0, i1, j1⟩ := kImageI_open (kImageA_K _ x _ ▸ N24.out.read (.tail _ (.head _)))
  cases h
  have C := cImStates x fn qx dx px ex _ i0 j0 i1 j1 HN.out
  rw [← HR.out, ← HQ.out, ← HBQ.out] at C
  refine C.mono ?_; clear C i0 j0 i1 j1; rintro e w25 ⟨v1, v2, rfl, ho1, ho2, hb⟩; obtain ⟨Xg, yg, rfl⟩ := Kd.S_slice ho1; obtain ⟨Ug, tg, rfl⟩ := Kd.R_slice ho2
  have M25 := Aside0.mk (N24.out.push hb (ans_mk ho1 ho2)); clear ho1 ho2 hb N24
  go_wp2_with fail
  have C := eqStateS Xg XW yg yW r r _ (ans_C (M25.out.val (.head _))).1 (ansR_C (M25.out.val (.tail _ (.tail _ (.tail _ (.head _)))))).1
  rw [decide_eq_true rfl] at C
  refine C.mono ?_; clear C; rintro e w26 ⟨rfl, hb⟩
  have M26 := Aside0.mk (M25.out.step hb); clear hb M25
  go_wp2_with fail
  have C := eqBoolS Ug UW tg tW q q _ (ans_C (M26.out.val (.head _))).2 (ansR_C (M26.out.val (.tail _ (.tail _ (.tail _ (.head _)))))).2
  rw [decide_eq_true rfl] at C
  refine C.mono ?_; clear C; rintro e w27 ⟨rfl, ⟨⟨nd27, rfl⟩⟩⟩
  have M27 := Aside0.mk (M26.out.draw nd27); clear M26
  generalize w26.drewN nd27 = w27 at M27 ⊢
  have z_bx := M27.out.box (.tail _ (.head _))
  have z_bI := M27.out.box (.tail _ (.tail _ (.tail _ (.tail _ (.head _)))))
  go_upto_region 10 with fail
  clear z_bx z_bI
  have RX := Aside0.mk (M27.out.read (.tail _ (.tail _ (.head _))))
  obtain ⟨L, HL, ML⟩ := Mem.hide M27
  have Ebx := Aside0.mk (show (Hold.box w24.heap.size #[.slice qx x.funcs.length dx, .slice px x.consts.length ex] 37) ∈ L from HL.out ▸ (.tail _ (.head _))); have EbI := Aside0.mk (show (Hold.box w.heap.size #[.slice A0 x.funcs.length c0, .slice A1 x.consts.length c1] 25) ∈ L from HL.out ▸ (.tail _ (.tail _ (.tail _ (.tail _ (.head _))))))
  clear M27
  refine sz 5 (fun W => W.cell? ⟨w24.heap.size, 0, none⟩ = some (.slice qx x.funcs.length dx) ∧ W.cell? ⟨w24.heap.size, 1, none⟩ = some (.slice px x.consts.length ex) ∧ W.cell? ⟨w.heap.size, 0, none⟩ = some (.slice A0 x.funcs.length c0) ∧ W.cell? ⟨w.heap.size, 1, none⟩ = some (.slice A1 x.consts.length c1)) [] law.tab10 law.bits10 ⟨(((ML.out.drew)).box Ebx.out 0).trans rfl, (((ML.out.drew)).box Ebx.out 1).trans rfl, (((ML.out.drew)).box EbI.out 0).trans rfl, (((ML.out.drew)).box EbI.out 1).trans rfl⟩ (fun HT_ HW_ hHeld => ?_)
  have MD := Aside0.mk ML.out.drew
  refine tz 0 56 ?_; refine tz 1 57 ?_
  refine ez 2 (some 58) (fun K hK => ?_)
  refine gz Try.func15 #[.agg #[.slice A0 x.funcs.length c0, .slice A1 x.consts.length c1]] ?_
  have C := toImageA x _ _ (MD.out.old HX.out) HLX.out
  refine C.mono ?_; clear C; rintro e w28 ⟨ds, rfl, hm, hb⟩
  obtain ⟨q2, d2, q3, d3, rfl, _, _, _, _⟩ := kImageI_open (kImageA_K _ x _ ▸ kImageA.K_of_M hm)
  have N28 := Aside0.mk (MD.out.push hb hm); have RX2 := Aside0.mk (kImageA.K_below (below_step (below_drew1 (Below.refl _ _)) hb) RX.out); clear hm hb
  refine ⟨_, rfl, ?_⟩
  refine hK.out _ _ ⟨(((N28.out).drop).box Ebx.out 0).trans rfl, (((N28.out).drop).box Ebx.out 1).trans rfl, (((N28.out).drop).box EbI.out 0).trans rfl, (((N28.out).drop).box EbI.out 1).trans rfl⟩ (fun hHeld => ?_); clear hK K; refine kz (some 58) ?_
  refine ez 3 (some 59) (fun K hK => ?_)
  refine gz Try.func19 #[.agg #[.slice qx x.funcs.length dx, .slice px x.consts.length ex], .agg #[.slice q2 x.funcs.length d2, .slice q3 x.consts.length d3]] ?_
  have C := eqImage x x _ _ _ (kImageA_K _ x _ ▸ RX2.out) (kImageA_K _ x _ ▸ N28.out.read (.head _)); rw [decide_eq_true rfl] at C; refine C.mono ?_; clear C; rintro e w29 ⟨rfl, hb⟩; have M29 := Aside0.mk ((N28.out.step hb).drop); clear hb
  refine ⟨_, rfl, ?_⟩
  refine hK.out _ _ ⟨(((M29.out)).box Ebx.out 0).trans rfl, (((M29.out)).box Ebx.out 1).trans rfl, (((M29.out)).box EbI.out 0).trans rfl, (((M29.out)).box EbI.out 1).trans rfl⟩ (fun hHeld => ?_); clear hK K; refine kz (some 59) ?_
  refine pz 4 60 ?_
  refine dz ?_
  clear hHeld ML RX RX2 N28 MD HT_ HW_
  have hl := HL.out; subst hl; clear HL Ebx EbI
  obtain ⟨k1, hk1⟩ : ∃ k1 : Int, k1 = 1 + (cntFuncs x.funcs : Int) + 3 * (x.consts.length : Int) := ⟨_, rfl⟩
  have hkb : 0 ≤ k1 ∧ k1 ≤ 17592186044416 := by
    have h1 := cnt_big HLX.out.2.1; have h2 := HLX.out.1; have h3 := HLX.out.2.2
    have h4 : x.funcs.length * 8388610 ≤ 1048576 * 8388610 := Nat.mul_le_mul_right _ h2
    omega
  have HK1 := Aside0.mk hk1; clear hk1
  have z_bx := M29.out.box (.tail _ (.head _))
  go_wp2_with fail
  clear z_bx
  have hv := M29.out.val (.tail _ (.tail _ (.head _))); have hf := M29.out.fits _ (.tail _ (.tail _ (.head _)))
  have C := markImage x _ 1 w _ _ _ M29.out.below hf.1 (fun b hb => Nat.lt_of_lt_of_le hb.2 hf.2) hv (by omega) (by have := HK1.out; omega) HLX.out.1; clear hv hf
  rw [← HK1.out] at C
  refine C.mono ?_; clear C; rintro e w30 ⟨rfl, hv, hb, hk⟩
  have M30 := Aside0.mk (Mem.mark (A := [_, _]) M29.out hb hk hv); clear hv hb hk M29
  have gk : decide (k1 < 0) = false := by simp; omega
  go_wp2_with fail
  have C := eqStateS Xg XW yg yW r r _ (ans_C (M30.out.val (.head _))).1 (ansR_C (M30.out.val (.tail _ (.tail _ (.tail _ (.head _)))))).1
  rw [decide_eq_true rfl] at C
  refine C.mono ?_; clear C; rintro e w31 ⟨rfl, hb⟩
  have M31 := Aside0.mk (M30.out.step hb); clear hb M30
  go_wp2_with fail
  have C := eqBoolS Ug UW tg tW q q _ (ans_C (M31.out.val (.head _))).2 (ansR_C (M31.out.val (.tail _ (.tail _ (.tail _ (.head _)))))).2
  rw [decide_eq_true rfl] at C
  refine C.mono ?_; clear C; rintro e w32 ⟨rfl, ⟨⟨nd32, rfl⟩⟩⟩
  have M32 := Aside0.mk (M31.out.draw nd32); clear M31
  generalize w31.drewN nd32 = w32 at M32 ⊢
  clear gk
  go_wp2_with fail
  have hv := M32.out.val (.head _); have hf := M32.out.fits _ (.head _)
  refine (markA1 _ _ r q 1 w _ _ _ M32.out.below hf.1 hv (by omega) (by omega) (by omega)).mono ?_; clear hf
  rintro e w33 ⟨rfl, hv2, hb, hk⟩
  have M33 := Aside0.mk (Mem.mark (d := kAns) (A := []) M32.out hb hk (y := (mkSts 1 r, q)) hv2); clear hv hv2 hb hk M32
  go_wp2_with fail
  have hv := M33.out.val (.head _); have hf := M33.out.fits _ (.head _)
  refine (markA2 _ _ (mkSts 1 r) q (1 + (cntSts r : Int)) w _ _ _ M33.out.below hf.1 hv (by omega) (by omega)).mono ?_; clear hf
  rintro e w34 ⟨rfl, hv2, hb, hk⟩
  have M34 := Aside0.mk (Mem.mark (d := kAns) (A := []) M33.out hb hk (y := (mkSts 1 r, mkBools (1 + (cntSts r : Int)) q.length)) hv2); clear hv hv2 hb hk M33
  go_wp2_with fail
  have hv := ans_C (M34.out.val (.head _))
  have C := heldStateS Xg yg r (mkSts 1 r) 1 _ hv.1 rfl (by omega) (by omega) (by rw [mkSts_len]; omega)
  rw [mkSts_len] at C
  refine C.mono ?_; clear C hv; rintro e w35 ⟨rfl, hb⟩
  have M35 := Aside0.mk (M34.out.step hb); clear hb M34
  have gq : decide (1 + (cntSts r : Int) < 0) = false := by simp; omega
  go_wp2_with fail
  have hv := ans_C (M35.out.val (.head _))
  have C := heldBoolS Ug tg q.length (mkBools (1 + (cntSts r : Int)) q.length) (1 + (cntSts r : Int)) _ hv.2 rfl (by omega) (by rw [mkBools_len]; omega)
  simp only [mkBools_len] at C
  refine C.mono ?_; clear C hv; rintro e w36 ⟨rfl, hb⟩
  have M36 := Aside0.mk (M35.out.step hb); clear hb M35
  have gq2 : decide (1 + (cntSts r : Int) + (q.length : Int) < 0) = false := by simp; omega
  have gn : (1 + (cntSts r : Int) + (q.length : Int) != 1 + (cntSts r : Int) + (q.length : Int)) = false := by simp
  have z_bI := M36.out.box (.tail _ (.tail _ (.tail _ (.tail _ (.head _)))))
  go_wp2_with fail
  clear z_bI
  refine (toImageA x _ _ (M36.out.old HX.out) HLX.out).mono ?_; rintro e w37 ⟨ds, rfl, hm, hb⟩; obtain ⟨qh, dh, ph, eh, rfl, _, _, _, _⟩ := kImageI_open (kImageA_K _ x _ ▸ kImageA.K_of_M hm)
  have M37 := Aside0.mk (M36.out.push hb hm); clear hm hb M36
  go_wp2_with fail
  obtain ⟨q', d', p', e', h, i0, j0, i1, j1⟩ := kImageI_open (kImageA_K _ x _ ▸ M37.out.read (.head _))
  cases h
  have C := cImStates x fn qh dh ph eh _ i0 j0 i1 j1 HN.out
  rw [← HR.out, ← HQ.out, ← HBQ.out] at C
  refine C.mono ?_; clear C i0 j0 i1 j1; rintro e w38 ⟨v1, v2, rfl, ho1, ho2, hb⟩; obtain ⟨XH, yH, rfl⟩ := Kd.S_slice ho1; obtain ⟨UH, tH, rfl⟩ := Kd.R_slice ho2
  have M38 := Aside0.mk (M37.out.push hb (ans_mk ho1 ho2)); clear ho1 ho2 hb M37
  go_wp2_with fail
  have C := eqStateS XH XW yH yW r r _ (ans_C (M38.out.val (.head _))).1 (ansR_C (M38.out.val (.tail _ (.tail _ (.tail _ (.tail _ (.tail _ (.head _)))))))).1
  rw [decide_eq_true rfl] at C
  refine C.mono ?_; clear C; rintro e w39 ⟨rfl, hb⟩
  have M39 := Aside0.mk (M38.out.step hb); clear hb M38
  go_wp2_with fail
  have C := eqBoolS UH UW tH tW q q _ (ans_C (M39.out.val (.head _))).2 (ansR_C (M39.out.val (.tail _ (.tail _ (.tail _ (.tail _ (.tail _ (.head _)))))))).2
  rw [decide_eq_true rfl] at C
  refine C.mono ?_; clear C; rintro e w40 ⟨rfl, ⟨⟨nd40, rfl⟩⟩⟩
  have M40 := Aside0.mk (M39.out.draw nd40); clear M39
  generalize w39.drewN nd40 = w40 at M40 ⊢
  go_wp2_with fail
  have hv := ans_C (M40.out.val (.tail _ (.tail _ (.head _))))
  have C := heldStateS Xg yg r (mkSts 1 r) 1 _ hv.1 rfl (by omega) (by omega) (by rw [mkSts_len]; omega)
  rw [mkSts_len] at C
  refine C.mono ?_; clear C hv; rintro e w41 ⟨rfl, hb⟩
  have M41 := Aside0.mk (M40.out.step hb); clear hb M40
  go_wp2_with fail
  have hv := ans_C (M41.out.val (.tail _ (.tail _ (.head _))))
  have C := heldBoolS Ug tg q.length (mkBools (1 + (cntSts r : Int)) q.length) (1 + (cntSts r : Int)) _ hv.2 rfl (by omega) (by rw [mkBools_len]; omega)
  simp only [mkBools_len] at C
  refine C.mono ?_; clear C hv; rintro e w42 ⟨rfl, hb⟩
  have M42 := Aside0.mk (M41.out.step hb); clear hb M41
  go_wp2
  go_ret
  exact ⟨rfl, M42.out.below⟩
theorem le_sum {l : List Func} {y : Func} (h : y ∈ l) : sizeFunc y ≤ (l.map sizeFunc).sum := by
  induction l with
  | nil => cases h
  | cons a l ih =>
    rw [List.map_cons, List.sum_cons]
    rcases List.mem_cons.1 h with rfl | h
    · omega
    · have := ih h
      omega
theorem len_ok {x : Image} (h : (sizeImage x : Int) ≤ 1048576) : LenImage x := by
  have e : sizeImage x = x.funcs.length + (x.funcs.map sizeFunc).sum + (x.consts.length + (x.consts.map sizeConst).sum) := rfl
  refine ⟨by omega, fun y hy => ?_, by omega⟩
  have h1 := le_sum hy
  have e2 : sizeFunc y = y.caps.length + y.code.length + y.handlers.length := rfl
  exact ⟨by omega, by omega, by omega⟩
theorem law {GF : Func → Prop} (A0_0 : Option Addr) (c0_0 : Nat) (l0_0 : List Func) (A0_1 : Option Addr) (c0_1 : Nat) (l0_1 : List Const) (z1 : Int) (w : World)
    (hr0_0 : kFuncL.C w A0_0 l0_0.length l0_0) (hc0_0 : l0_0.length ≤ c0_0) (hr0_1 : kConst.C w A0_1 l0_1.length l0_1) (hc0_1 : l0_1.length ≤ c0_1)
    (g0 : (l0_0.length ≤ maxLen ∧ ∀ x ∈ l0_0, GF x) ∧ (l0_1.length ≤ maxLen ∧ ∀ x ∈ l0_1, (Lit.int .i64 x.kind).wf = true ∧ (Lit.int .u64 x.num).wf = true ∧ x.text.size ≤ maxLen)) (g1 : (Lit.int .i64 z1).wf = true) :
    Calls Try.prog 7 #[.agg #[.slice A0_0 l0_0.length c0_0, .slice A0_1 l0_1.length c0_1], .int .i64 z1] w fun e w' => e = .returned (.bool true) ∧ Below w.heap.size w w' := by
  have hx := kImageL_mk w ⟨l0_0, l0_1⟩ hc0_0 hr0_0 hc0_1 hr0_1
  have gx : GoodImage ⟨l0_0, l0_1⟩ := ⟨fun _ _ => trivial, fun y hy => (g0.2.2 y hy).2.2⟩
  by_cases n1 : (1048576 : Int) < (sizeImage ⟨l0_0, l0_1⟩ : Int)
  · exact w1 ⟨l0_0, l0_1⟩ z1 _ _ _ _ w hx gx (by unfold sub; rw [if_pos n1])
  · have e1 : sub 1048576 (sizeImage ⟨l0_0, l0_1⟩) = 1048576 - (sizeImage ⟨l0_0, l0_1⟩ : Int) := by unfold sub; rw [if_neg n1]
    exact w2 ⟨l0_0, l0_1⟩ z1 _ _ _ _ w hx gx _ e1 (by omega) (by omega) (len_ok (by omega)) (fun y hy => by have h := (g0.2.2 y hy).2.1; exact wf_u64 h)
end Go.Proofs.Ytcbaokflimdjnaa.LawFnExactStates
end
section
namespace Go.Proofs.Ytcbaokflimdjnaa.Open
open Go.Proofs.YtcbaokflimdjnaaW.PrintWords Go.ChangeShapes Go.WideShapes
section
variable {H : Type} {enc : TypeId × Value → H} {P : Program} {w : World} {base : Nat} {spare : Nat → Bool} {held : Bool}
/-- What reads as a datum at type t reads by the kind d as a value that is G. -/
def Opens {α : Type} (enc : TypeId × Value → H) (P : Program) (w : World) (base : Nat) (spare : Nat → Bool) (held : Bool) (t : TypeId) (d : Kd α) (G : α → Prop) : Prop :=
  ∀ (fuel : Nat) (cs : List Value) (x : DataW H × List MemPlace), DataW.trod enc P w base spare held fuel t cs = some x → ∃ a, d.K w a cs ∧ G a
theorem opens_int {t : TypeId} {k : IntKind} (ht : P.underlying t = some (.int k)) : Opens enc P w base spare held t (Kd.int k) (fun n => (Lit.int k n).wf = true) := by
  intro fuel cs x h
  obtain ⟨n, rfl, _, hw⟩ := DataW.trod_int ht h
  exact ⟨n, rfl, hw⟩
theorem opens_bool {t : TypeId} (ht : P.underlying t = some .bool) : Opens enc P w base spare held t Kd.bool (fun _ => True) := by
  intro fuel cs x h
  obtain ⟨b, rfl, _⟩ := DataW.trod_bool ht h
  exact ⟨b, rfl, trivial⟩
theorem opens_string {t : TypeId} (ht : P.underlying t = some .string) : Opens enc P w base spare held t Kd.string (fun s => s.size ≤ maxLen) := by
  intro fuel cs x h
  obtain ⟨s, rfl, _, hw⟩ := DataW.trod_string ht h
  exact ⟨s, rfl, hw⟩
theorem list_choose {α : Type} {Q : Nat → α → Prop} : ∀ (n : Nat), (∀ i, i < n → ∃ a, Q i a) → ∃ l : List α, l.length = n ∧ ∀ i a, l[i]? = some a → Q i a
  | 0, _ => ⟨[], rfl, fun i a h => by simp at h⟩
  | n + 1, h => by
    obtain ⟨l, hl, hq⟩ := list_choose n (fun i hi => h i (by omega))
    obtain ⟨a, ha⟩ := h n (by omega)
    refine ⟨l ++ [a], by simp [hl], fun i b hb => ?_⟩
    rw [List.getElem?_append] at hb
    split at hb
    · exact hq i b hb
    · rename_i hi
      have hi0 : i - l.length = 0 := by
        rcases Nat.eq_zero_or_pos (i - l.length) with h0 | h0
        · exact h0
        · rw [List.getElem?_eq_none (by simp; omega)] at hb
          cases hb
      rw [hi0] at hb
      simp at hb
      subst hb
      have : i = n := by omega
      rw [this]
      exact ha
theorem opens_slice {α : Type} {t e e' : TypeId} {d : Kd α} {G : α → Prop} (ht : P.underlying t = some (.slice e)) (hc : P.cellsOf e = d.sz) (ho : Opens enc P w base spare held e d G) :
    Opens enc P w base spare held t (Kd.slice e' d) (fun xs => xs.length ≤ maxLen ∧ ∀ x ∈ xs, G x) := by
  intro fuel cs x h
  rcases DataW.trod_slice ht h with ⟨rfl, _⟩ | ⟨a, len, cap, elems, rest, n, _, rfl, _, _, hl, hm, hlen, hel, _⟩
  · exact ⟨[], ⟨none, 0, rfl, Nat.le_refl _, rfl, by simp, fun h => by simp at h⟩, by simp, fun x hx => by simp at hx⟩
  · have each : ∀ i, i < len → ∃ z : α, (∃ c, c.length = d.sz ∧ d.K w z c ∧ ∀ j u, c[j]? = some u → w.cell? (a.add (i * d.sz + j)) = some u) ∧ G z := by
      intro i hi
      have he := hel i hi
      rw [List.getElem?_eq_getElem (by omega), Option.bind_eq_some_iff] at he
      obtain ⟨c, hcs, hy⟩ := he
      obtain ⟨z, hk, hg⟩ := ho _ _ _ hy
      refine ⟨z, ⟨c, d.K_len hk, hk, fun j u hu => ?_⟩, hg⟩
      obtain ⟨_, hcl, hcell⟩ := World.cells?_some hcs
      have hj : j < c.length := (List.getElem?_eq_some_iff.1 hu).1
      have := hcell j (by omega)
      rw [hc, Addr.add_add] at this
      rw [this, hu]
    obtain ⟨l, hll, hq⟩ := list_choose len each
    refine ⟨l, ⟨some a, cap, by rw [hll], by omega, rfl, by unfold maxLen at hm; omega, fun _ => ⟨a, rfl, fun j p hp => ?_⟩⟩, by omega, fun z hz => ?_⟩
    · obtain ⟨⟨c, h1, h2, h3⟩, _⟩ := hq j p hp
      exact ⟨c, h1, h2, h3⟩
    · obtain ⟨i, hi⟩ := List.getElem?_of_mem hz
      exact (hq i z hi).2
/-- The fields from a place on, read in line by the kind d. -/
def Fields {α : Type} (enc : TypeId × Value → H) (P : Program) (w : World) (base : Nat) (spare : Nat → Bool) (held : Bool) (fs : List Field) (off : Nat) (d : Kd α) (G : α → Prop) : Prop :=
  ∀ (n : Nat) (cs : List Value), cs.length = off + d.sz → (∀ f ∈ fs, ∃ x, DataW.trod enc P w base spare held n f.type ((cs.drop f.offset).take (P.cellsOf f.type)) = some x) → ∃ a, d.K w a (cs.drop off) ∧ G a
theorem fields_one {α : Type} {f : Field} {off : Nat} {d : Kd α} {G : α → Prop} (hf : f.offset = off) (hc : P.cellsOf f.type = d.sz) (ho : Opens enc P w base spare held f.type d G) : Fields enc P w base spare held [f] off d G := by
  intro n cs hl h
  obtain ⟨x, hx⟩ := h f (by simp)
  obtain ⟨a, hk, hg⟩ := ho _ _ _ hx
  refine ⟨a, ?_, hg⟩
  rw [hf, hc, List.take_of_length_le (by simp [hl])] at hk
  exact hk
theorem fields_cons {α β : Type} {f : Field} {fs : List Field} {off : Nat} {d : Kd α} {d' : Kd β} {G : α → Prop} {G' : β → Prop} (hf : f.offset = off) (hc : P.cellsOf f.type = d.sz) (ho : Opens enc P w base spare held f.type d G)
    (hr : Fields enc P w base spare held fs (off + d.sz) d' G') : Fields enc P w base spare held (f :: fs) off (Kd.pair d d') (fun x => G x.1 ∧ G' x.2) := by
  intro n cs hl h
  obtain ⟨x, hx⟩ := h f (by simp)
  obtain ⟨a, hk, hg⟩ := ho _ _ _ hx
  rw [hf, hc] at hk
  have hl' : cs.length = off + d.sz + d'.sz := by rw [hl]; show off + (d.sz + d'.sz) = _; omega
  obtain ⟨b, hk', hg'⟩ := hr n cs hl' (fun g hg => h g (by simp [hg]))
  refine ⟨(a, b), ⟨_, _, ?_, hk, hk'⟩, hg, hg'⟩
  rw [← List.drop_drop, List.take_append_drop]
theorem opens_struct {α : Type} {t : TypeId} {fs : Array Field} {d : Kd α} {G : α → Prop} (ht : P.underlying t = some (.struct fs)) (hc : P.cellsOf t = d.sz) (hf : Fields enc P w base spare held fs.toList 0 d G) : Opens enc P w base spare held t d G := by
  intro fuel cs x h
  obtain ⟨xs, n, _, _, hl, hlen, hx⟩ := DataW.trod_struct ht h
  obtain ⟨a, hk, hg⟩ := hf n cs (by omega) (fun f hm => by
    obtain ⟨i, hi⟩ := List.getElem?_of_mem hm
    have hi' : i < fs.size := by have := (List.getElem?_eq_some_iff.1 hi).1; simpa using this
    have := hx i f (by rw [← hi, Array.getElem?_toList])
    rw [List.getElem?_eq_getElem (by omega)] at this
    exact ⟨_, this⟩)
  exact ⟨a, by simpa using hk, hg⟩
/-- A structure by its fields: where the kind's own value is the tuple. -/
theorem opens_iso {α β : Type} {t : TypeId} {d : Kd α} {G : α → Prop} (f : β → α) (g : α → β) (hfg : ∀ a, f (g a) = a) (h : Opens enc P w base spare held t d G) : Opens enc P w base spare held t (Kd.iso d f) (fun b => G (f b)) := by
  intro fuel cs x hx
  obtain ⟨a, hk, ha⟩ := h fuel cs x hx
  refine ⟨g a, ?_, by show G (f (g a)); rw [hfg]; exact ha⟩
  show d.K w (f (g a)) cs
  rw [hfg]
  exact hk
/-- An argument: its cells, by the kind. -/
theorem opens_arg {α : Type} {t : TypeId} {d : Kd α} {G : α → Prop} {v : Value} {dd : DataW H} {p : List MemPlace} (ho : Opens enc P w base spare held t d G) (h : DataW.Trod enc P w base spare held t v dd p) : ∃ a, d.K w a v.cells.toList ∧ G a := by
  obtain ⟨fuel, hf⟩ := h
  exact ho _ _ _ hf
end
end Go.Proofs.Ytcbaokflimdjnaa.Open
end
