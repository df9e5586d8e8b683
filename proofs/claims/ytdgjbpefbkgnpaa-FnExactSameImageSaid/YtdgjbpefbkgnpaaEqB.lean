/- Contracts of the laws' own functions, by program: they compare what they are handed. No condition beyond what the arguments read as. -/
import Derived.Test.YtdgjbpefbkgnpaaKinds
import Derived.Test.YtdgjbpefbkgnpaaLaw
import Derived.Test.YtdgjbpefbkgnpaaNum
import Derived.WalkKit
import Derived.KernelRfl
import Derived.Deep.LoopGhost
import Derived.Deep.QuietTactic
import Derived.BigQuiet
import Derived.RowKit3
import Derived.Deep.RegionWith
import Derived.Deep.RegionHeld3
import Derived.WalkLawsBesides
import Derived.Test.YtdgjbpefbkgnpaaEqA
namespace Go.Proofs.Ytdgjbpefbkgnpaa
open Go.RowKit Go.Proofs.YtdgjbpefbkgnpaaW.PrintWords Go.Proofs.YtdgjbpefbkgnpaaW.PrintMore Go.Proofs.Ytdgjbpefbkgnpaa.Law Go.Proofs.Ytdgjbpefbkgnpaa.Num
set_option linter.unusedVariables false
set_option linter.unusedSimpArgs false
set_option maxHeartbeats 4000000 in
set_option maxRecDepth 100000 in
theorem eqFunc (x y : Func) (cs ds : List Value) (w : World) (hk : kFuncI.K w x cs) (hk2 : kFuncI.K w y ds) :
    Calls Try.prog 118 #[.agg ⟨cs⟩, .agg ⟨ds⟩] w fun e w' => e = .returned (.bool (decide (x = y))) ∧ Below w.heap.size w w' := by
  obtain ⟨pA2, pc2, pA3, pc3, pA4, pc4, rfl, pl2, pg2, pl3, pg3, pl4, pg4⟩ := kFuncI_open hk
  have pG2 := Aside0.mk pg2; have pL2 := Aside0.mk pl2; clear pg2 pl2
  have pG3 := Aside0.mk pg3; have pL3 := Aside0.mk pl3; clear pg3 pl3
  have pG4 := Aside0.mk pg4; have pL4 := Aside0.mk pl4; clear pg4 pl4
  obtain ⟨qA2, qc2, qA3, qc3, qA4, qc4, rfl, ql2, qg2, ql3, qg3, ql4, qg4⟩ := kFuncI_open hk2
  have qG2 := Aside0.mk qg2; have qL2 := Aside0.mk ql2; clear qg2 ql2
  have qG3 := Aside0.mk qg3; have qL3 := Aside0.mk ql3; clear qg3 ql3
  have qG4 := Aside0.mk qg4; have qL4 := Aside0.mk ql4; clear qg4 ql4
  clear hk hk2
  have hu := Try.underlying111
  have A0 := Aside0.mk (((At.start w).alloc #[.int .i64 x.params, .int .i64 x.regs, .slice pA2 x.caps.length pc2, .slice pA3 x.code.length pc3, .slice pA4 x.handlers.length pc4] 111).alloc #[.int .i64 y.params, .int .i64 y.regs, .slice qA2 y.caps.length qc2, .slice qA3 y.code.length qc3, .slice qA4 y.handlers.length qc4] 111)
  rw [show (w.alloc (.cells #[.int .i64 x.params, .int .i64 x.regs, .slice pA2 x.caps.length pc2, .slice pA3 x.code.length pc3, .slice pA4 x.handlers.length pc4] 111)).heap.size = w.heap.size + 1 by simp] at A0
  by_cases h0 : x.params = y.params
  · skip
    have b0 : (x.params == y.params) = true := beq_iff_eq.mpr h0
    have d0 : (x.params != y.params) = false := bne_eq_false_iff_eq.mpr h0
    by_cases h1 : x.regs = y.regs
    · skip
      have b1 : (x.regs == y.regs) = true := beq_iff_eq.mpr h1
      have d1 : (x.regs != y.regs) = false := bne_eq_false_iff_eq.mpr h1
      by_cases h2 : x.caps = y.caps
      · skip
        have d2 : decide (x.caps = y.caps) = true := decide_eq_true h2
        by_cases h3 : x.code = y.code
        · skip
          have d3 : decide (x.code = y.code) = true := decide_eq_true h3
          by_cases h4 : x.handlers = y.handlers
          · skip
            have d4 : decide (x.handlers = y.handlers) = true := decide_eq_true h4
            have hfin : decide (x = y) = true := decide_eq_true (by cases x; cases y; simp_all)
            have HF := Aside0.mk hfin
            clear hfin
            clear h0
            clear h1
            clear h2
            clear h3
            clear h4
            go_enter Try.func118, Try.ntmps118
            go_wp2_with fail
            refine (eqCapS _ _ _ _ _ _ _ (A0.out.reads pG2.out) (A0.out.reads qG2.out)).mono ?_
            rintro e w1 ⟨rfl, hb0⟩
            have hb := hb0
            have A1 := Aside0.mk (A0.out.step hb)
            clear hb hb0 A0
            have z0 := A1.out.cell1; have z1 := A1.out.cell0
            go_wp2_with fail
            refine (eqInsS _ _ _ _ _ _ _ (A1.out.reads pG3.out) (A1.out.reads qG3.out)).mono ?_
            rintro e w2 ⟨rfl, hb0⟩
            have hb := hb0
            have A2 := Aside0.mk (A1.out.step hb)
            clear hb hb0 A1 z0 z1
            have z0 := A2.out.cell1; have z1 := A2.out.cell0
            go_wp2_with fail
            refine (eqHandlerS _ _ _ _ _ _ _ (A2.out.reads pG4.out) (A2.out.reads qG4.out)).mono ?_
            rintro e w3 ⟨rfl, hb0⟩
            have hb := hb0
            have A3 := Aside0.mk (A2.out.step hb)
            clear hb hb0 A2 z0 z1
            have z0 := A3.out.cell1; have z1 := A3.out.cell0
            go_wp2
            go_ret
            exact ⟨by rw [HF.out]; rfl, A3.out.below⟩
          · skip
            have d4 : decide (x.handlers = y.handlers) = false := decide_eq_false h4
            have hfin : decide (x = y) = false := decide_eq_false (fun e => h4 (by rw [e]))
            have HF := Aside0.mk hfin
            clear hfin
            clear h0
            clear h1
            clear h2
            clear h3
            clear h4
            go_enter Try.func118, Try.ntmps118
            go_wp2_with fail
            refine (eqCapS _ _ _ _ _ _ _ (A0.out.reads pG2.out) (A0.out.reads qG2.out)).mono ?_
            rintro e w1 ⟨rfl, hb0⟩
            have hb := hb0
            have A1 := Aside0.mk (A0.out.step hb)
            clear hb hb0 A0
            have z0 := A1.out.cell1; have z1 := A1.out.cell0
            go_wp2_with fail
            refine (eqInsS _ _ _ _ _ _ _ (A1.out.reads pG3.out) (A1.out.reads qG3.out)).mono ?_
            rintro e w2 ⟨rfl, hb0⟩
            have hb := hb0
            have A2 := Aside0.mk (A1.out.step hb)
            clear hb hb0 A1 z0 z1
            have z0 := A2.out.cell1; have z1 := A2.out.cell0
            go_wp2_with fail
            refine (eqHandlerS _ _ _ _ _ _ _ (A2.out.reads pG4.out) (A2.out.reads qG4.out)).mono ?_
            rintro e w3 ⟨rfl, hb0⟩
            have hb := hb0
            have A3 := Aside0.mk (A2.out.step hb)
            clear hb hb0 A2 z0 z1
            have z0 := A3.out.cell1; have z1 := A3.out.cell0
            go_wp2
            go_ret
            exact ⟨by rw [HF.out]; rfl, A3.out.below⟩
        · skip
          have d3 : decide (x.code = y.code) = false := decide_eq_false h3
          have hfin : decide (x = y) = false := decide_eq_false (fun e => h3 (by rw [e]))
          have HF := Aside0.mk hfin
          clear hfin
          clear h0
          clear h1
          clear h2
          clear h3
          go_enter Try.func118, Try.ntmps118
          go_wp2_with fail
          refine (eqCapS _ _ _ _ _ _ _ (A0.out.reads pG2.out) (A0.out.reads qG2.out)).mono ?_
          rintro e w1 ⟨rfl, hb0⟩
          have hb := hb0
          have A1 := Aside0.mk (A0.out.step hb)
          clear hb hb0 A0
          have z0 := A1.out.cell1; have z1 := A1.out.cell0
          go_wp2_with fail
          refine (eqInsS _ _ _ _ _ _ _ (A1.out.reads pG3.out) (A1.out.reads qG3.out)).mono ?_
          rintro e w2 ⟨rfl, hb0⟩
          have hb := hb0
          have A2 := Aside0.mk (A1.out.step hb)
          clear hb hb0 A1 z0 z1
          have z0 := A2.out.cell1; have z1 := A2.out.cell0
          go_wp2
          go_ret
          exact ⟨by rw [HF.out]; rfl, A2.out.below⟩
      · skip
        have d2 : decide (x.caps = y.caps) = false := decide_eq_false h2
        have hfin : decide (x = y) = false := decide_eq_false (fun e => h2 (by rw [e]))
        have HF := Aside0.mk hfin
        clear hfin
        clear h0
        clear h1
        clear h2
        go_enter Try.func118, Try.ntmps118
        go_wp2_with fail
        refine (eqCapS _ _ _ _ _ _ _ (A0.out.reads pG2.out) (A0.out.reads qG2.out)).mono ?_
        rintro e w1 ⟨rfl, hb0⟩
        have hb := hb0
        have A1 := Aside0.mk (A0.out.step hb)
        clear hb hb0 A0
        have z0 := A1.out.cell1; have z1 := A1.out.cell0
        go_wp2
        go_ret
        exact ⟨by rw [HF.out]; rfl, A1.out.below⟩
    · skip
      have b1 : (x.regs == y.regs) = false := beq_eq_false_iff_ne.mpr h1
      have d1 : (x.regs != y.regs) = true := bne_iff_ne.mpr h1
      have hfin : decide (x = y) = false := decide_eq_false (fun e => h1 (by rw [e]))
      have HF := Aside0.mk hfin
      clear hfin
      clear h0
      clear h1
      go_enter Try.func118, Try.ntmps118
      go_wp2
      go_ret
      exact ⟨by rw [HF.out]; rfl, by repeat (first | exact Below.refl _ _ | apply below_alloc | apply below_drew1 | apply pw_below_drewN | assumption)⟩
  · skip
    have b0 : (x.params == y.params) = false := beq_eq_false_iff_ne.mpr h0
    have d0 : (x.params != y.params) = true := bne_iff_ne.mpr h0
    have hfin : decide (x = y) = false := decide_eq_false (fun e => h0 (by rw [e]))
    have HF := Aside0.mk hfin
    clear hfin
    clear h0
    go_enter Try.func118, Try.ntmps118
    go_wp2
    go_ret
    exact ⟨by rw [HF.out]; rfl, by repeat (first | exact Below.refl _ _ | apply below_alloc | apply below_drew1 | apply pw_below_drewN | assumption)⟩
set_option maxHeartbeats 4000000 in
set_option maxRecDepth 100000 in
theorem eqFuncS (A B : Option Addr) (c d : Nat) (l m : List Func) (w : World) (hr : kFuncI.C w A l.length l) (hr2 : kFuncI.C w B m.length m) :
    Calls Try.prog 95 #[.slice A l.length c, .slice B m.length d] w fun e w' => e = .returned (.bool (decide (l = m))) ∧ Below w.heap.size w w' := by
  have hL : l.length ≤ 9223372036854775807 := hr.2.1
  by_cases hlen : l.length = m.length
  · have b1 : ((l.length : Int) != (m.length : Int)) = false := by simp [hlen]
    have HR := Aside0.mk hr; have HR2 := Aside0.mk hr2; have HL := Aside0.mk hlen
    clear hr hr2 hlen
    go_enter Try.func95, Try.ntmps95
    go_wp2
    go_loopw [5] (fun v wr => ∃ j : Nat, v = .int .i64 j ∧ j ≤ l.length ∧ Aside0 (∀ i : Nat, i < j → el zFunc l i = el zFunc m i) ∧ Aside0 (Below w.heap.size w wr)) (fun v _ => l.length - (intOf v).toNat)
    case atStart => exact ⟨0, rfl, by omega, ⟨fun i hi => by omega⟩, ⟨Below.refl _ _⟩⟩
    case round =>
      obtain ⟨j, rfl, hj, HE, HW⟩ := hrel
      by_cases hlt : j < l.length
      · obtain ⟨pa, pA2, pc2, pA3, pc3, pA4, pc4, rfl, pK, px0, px1, px2, px3, px4⟩ := FuncI_at (Kd.C_below HR.out HW.out) j hlt
        have pK2 := Aside0.mk pK; clear pK
        obtain ⟨qa, qA2, qc2, qA3, qc3, qA4, qc4, rfl, qK, qx0, qx1, qx2, qx3, qx4⟩ := FuncI_at (Kd.C_below HR2.out HW.out) j (by have := HL.out; omega)
        have qK2 := Aside0.mk qK; clear qK
        have i1 : (0 : Int) ≤ (j : Int) := by omega
        have i2 : (j : Int) < (l.length : Int) := by omega
        have i3 : (j : Int) < (m.length : Int) := by have := HL.out; omega
        by_cases he : el zFunc l j = el zFunc m j
        · have b2 : decide (el zFunc l j = el zFunc m j) = true := decide_eq_true he
          have HE2 := Aside0.mk he
          clear he
          go_wp2
          have HS : Aside0 (∀ W : World, Below wr.heap.size wr W → W.cell? (pa.add (j * 5)) = some (.int .i64 (el zFunc l j).params) ∧ W.cell? ⟨(pa.add (j * 5)).block, (pa.add (j * 5)).off + 1, none⟩ = some (.int .i64 (el zFunc l j).regs) ∧ W.cell? ⟨(pa.add (j * 5)).block, (pa.add (j * 5)).off + 2, none⟩ = some (.slice pA2 (el zFunc l j).caps.length pc2) ∧ W.cell? ⟨(pa.add (j * 5)).block, (pa.add (j * 5)).off + 3, none⟩ = some (.slice pA3 (el zFunc l j).code.length pc3) ∧ W.cell? ⟨(pa.add (j * 5)).block, (pa.add (j * 5)).off + 4, none⟩ = some (.slice pA4 (el zFunc l j).handlers.length pc4) ∧ W.cell? (qa.add (j * 5)) = some (.int .i64 (el zFunc m j).params) ∧ W.cell? ⟨(qa.add (j * 5)).block, (qa.add (j * 5)).off + 1, none⟩ = some (.int .i64 (el zFunc m j).regs) ∧ W.cell? ⟨(qa.add (j * 5)).block, (qa.add (j * 5)).off + 2, none⟩ = some (.slice qA2 (el zFunc m j).caps.length qc2) ∧ W.cell? ⟨(qa.add (j * 5)).block, (qa.add (j * 5)).off + 3, none⟩ = some (.slice qA3 (el zFunc m j).code.length qc3) ∧ W.cell? ⟨(qa.add (j * 5)).block, (qa.add (j * 5)).off + 4, none⟩ = some (.slice qA4 (el zFunc m j).handlers.length qc4)) := ⟨fun W hB => ⟨pw_cell_below hB px0, pw_cell_below hB px1, pw_cell_below hB px2, pw_cell_below hB px3, pw_cell_below hB px4, pw_cell_below hB qx0, pw_cell_below hB qx1, pw_cell_below hB qx2, pw_cell_below hB qx3, pw_cell_below hB qx4⟩⟩
          go_region_held3 (fun W => W.cell? (pa.add (j * 5)) = some (.int .i64 (el zFunc l j).params) ∧ W.cell? ⟨(pa.add (j * 5)).block, (pa.add (j * 5)).off + 1, none⟩ = some (.int .i64 (el zFunc l j).regs) ∧ W.cell? ⟨(pa.add (j * 5)).block, (pa.add (j * 5)).off + 2, none⟩ = some (.slice pA2 (el zFunc l j).caps.length pc2) ∧ W.cell? ⟨(pa.add (j * 5)).block, (pa.add (j * 5)).off + 3, none⟩ = some (.slice pA3 (el zFunc l j).code.length pc3) ∧ W.cell? ⟨(pa.add (j * 5)).block, (pa.add (j * 5)).off + 4, none⟩ = some (.slice pA4 (el zFunc l j).handlers.length pc4) ∧ W.cell? (qa.add (j * 5)) = some (.int .i64 (el zFunc m j).params) ∧ W.cell? ⟨(qa.add (j * 5)).block, (qa.add (j * 5)).off + 1, none⟩ = some (.int .i64 (el zFunc m j).regs) ∧ W.cell? ⟨(qa.add (j * 5)).block, (qa.add (j * 5)).off + 2, none⟩ = some (.slice qA2 (el zFunc m j).caps.length qc2) ∧ W.cell? ⟨(qa.add (j * 5)).block, (qa.add (j * 5)).off + 3, none⟩ = some (.slice qA3 (el zFunc m j).code.length qc3) ∧ W.cell? ⟨(qa.add (j * 5)).block, (qa.add (j * 5)).off + 4, none⟩ = some (.slice qA4 (el zFunc m j).handlers.length qc4)) (first | exact HS.out _ (below_step (below_drew1 (Below.refl _ _)) hb) | exact HS.out _ (below_drew1 (Below.refl _ _))) (first | (go_at_call 118; refine (eqFunc (el zFunc l j) (el zFunc m j) _ _ _ ?s1 ?s2).mono ?_; (case s1 => exact Kd.K_drew0 pK2.out); (case s2 => exact Kd.K_drew0 qK2.out); rintro e w1 ⟨rfl, hb⟩))
          go_wp2
          go_roundw
          case rel => exact ⟨j + 1, by go_num, by omega, ⟨fun i hi => by rcases Nat.lt_succ_iff_lt_or_eq.1 hi with h | h; exact HE.out i h; rw [h]; exact HE2.out⟩, ⟨below_step (below_drew1 HW.out) hb⟩⟩
          case measure => simp [intOf]; omega
        · have b2 : decide (el zFunc l j = el zFunc m j) = false := decide_eq_false he
          have HE2 := Aside0.mk he
          clear he
          go_wp2
          have HS : Aside0 (∀ W : World, Below wr.heap.size wr W → W.cell? (pa.add (j * 5)) = some (.int .i64 (el zFunc l j).params) ∧ W.cell? ⟨(pa.add (j * 5)).block, (pa.add (j * 5)).off + 1, none⟩ = some (.int .i64 (el zFunc l j).regs) ∧ W.cell? ⟨(pa.add (j * 5)).block, (pa.add (j * 5)).off + 2, none⟩ = some (.slice pA2 (el zFunc l j).caps.length pc2) ∧ W.cell? ⟨(pa.add (j * 5)).block, (pa.add (j * 5)).off + 3, none⟩ = some (.slice pA3 (el zFunc l j).code.length pc3) ∧ W.cell? ⟨(pa.add (j * 5)).block, (pa.add (j * 5)).off + 4, none⟩ = some (.slice pA4 (el zFunc l j).handlers.length pc4) ∧ W.cell? (qa.add (j * 5)) = some (.int .i64 (el zFunc m j).params) ∧ W.cell? ⟨(qa.add (j * 5)).block, (qa.add (j * 5)).off + 1, none⟩ = some (.int .i64 (el zFunc m j).regs) ∧ W.cell? ⟨(qa.add (j * 5)).block, (qa.add (j * 5)).off + 2, none⟩ = some (.slice qA2 (el zFunc m j).caps.length qc2) ∧ W.cell? ⟨(qa.add (j * 5)).block, (qa.add (j * 5)).off + 3, none⟩ = some (.slice qA3 (el zFunc m j).code.length qc3) ∧ W.cell? ⟨(qa.add (j * 5)).block, (qa.add (j * 5)).off + 4, none⟩ = some (.slice qA4 (el zFunc m j).handlers.length qc4)) := ⟨fun W hB => ⟨pw_cell_below hB px0, pw_cell_below hB px1, pw_cell_below hB px2, pw_cell_below hB px3, pw_cell_below hB px4, pw_cell_below hB qx0, pw_cell_below hB qx1, pw_cell_below hB qx2, pw_cell_below hB qx3, pw_cell_below hB qx4⟩⟩
          go_region_held3 (fun W => W.cell? (pa.add (j * 5)) = some (.int .i64 (el zFunc l j).params) ∧ W.cell? ⟨(pa.add (j * 5)).block, (pa.add (j * 5)).off + 1, none⟩ = some (.int .i64 (el zFunc l j).regs) ∧ W.cell? ⟨(pa.add (j * 5)).block, (pa.add (j * 5)).off + 2, none⟩ = some (.slice pA2 (el zFunc l j).caps.length pc2) ∧ W.cell? ⟨(pa.add (j * 5)).block, (pa.add (j * 5)).off + 3, none⟩ = some (.slice pA3 (el zFunc l j).code.length pc3) ∧ W.cell? ⟨(pa.add (j * 5)).block, (pa.add (j * 5)).off + 4, none⟩ = some (.slice pA4 (el zFunc l j).handlers.length pc4) ∧ W.cell? (qa.add (j * 5)) = some (.int .i64 (el zFunc m j).params) ∧ W.cell? ⟨(qa.add (j * 5)).block, (qa.add (j * 5)).off + 1, none⟩ = some (.int .i64 (el zFunc m j).regs) ∧ W.cell? ⟨(qa.add (j * 5)).block, (qa.add (j * 5)).off + 2, none⟩ = some (.slice qA2 (el zFunc m j).caps.length qc2) ∧ W.cell? ⟨(qa.add (j * 5)).block, (qa.add (j * 5)).off + 3, none⟩ = some (.slice qA3 (el zFunc m j).code.length qc3) ∧ W.cell? ⟨(qa.add (j * 5)).block, (qa.add (j * 5)).off + 4, none⟩ = some (.slice qA4 (el zFunc m j).handlers.length qc4)) (first | exact HS.out _ (below_step (below_drew1 (Below.refl _ _)) hb) | exact HS.out _ (below_drew1 (Below.refl _ _))) (first | (go_at_call 118; refine (eqFunc (el zFunc l j) (el zFunc m j) _ _ _ ?s1 ?s2).mono ?_; (case s1 => exact Kd.K_drew0 pK2.out); (case s2 => exact Kd.K_drew0 qK2.out); rintro e w1 ⟨rfl, hb⟩))
          go_wp2
          go_ret
          exact ⟨by rw [decide_eq_false (fun h => HE2.out (by rw [h]))]; rfl, below_step (below_drew1 HW.out) hb⟩
      · go_wp2
        go_ret
        exact ⟨by rw [decide_eq_true (el_ext zFunc HL.out (fun i hi => HE.out i (by omega)))]; rfl, HW.out⟩
  · have b1 : ((l.length : Int) != (m.length : Int)) = true := by simp; omega
    have HL := Aside0.mk hlen
    clear hr hr2 hlen
    go_enter Try.func95, Try.ntmps95
    go_wp2
    go_ret
    exact ⟨by rw [decide_eq_false (fun h => HL.out (by rw [h]))]; rfl, Below.refl _ _⟩
set_option maxHeartbeats 4000000 in
set_option maxRecDepth 100000 in
theorem eqImage (x y : Image) (cs ds : List Value) (w : World) (hk : kImageI.K w x cs) (hk2 : kImageI.K w y ds) :
    Calls Try.prog 51 #[.agg ⟨cs⟩, .agg ⟨ds⟩] w fun e w' => e = .returned (.bool (decide (x = y))) ∧ Below w.heap.size w w' := by
  obtain ⟨pA0, pc0, pA1, pc1, rfl, pl0, pg0, pl1, pg1⟩ := kImageI_open hk
  have pG0 := Aside0.mk pg0; have pL0 := Aside0.mk pl0; clear pg0 pl0
  have pG1 := Aside0.mk pg1; have pL1 := Aside0.mk pl1; clear pg1 pl1
  obtain ⟨qA0, qc0, qA1, qc1, rfl, ql0, qg0, ql1, qg1⟩ := kImageI_open hk2
  have qG0 := Aside0.mk qg0; have qL0 := Aside0.mk ql0; clear qg0 ql0
  have qG1 := Aside0.mk qg1; have qL1 := Aside0.mk ql1; clear qg1 ql1
  clear hk hk2
  have hu := Try.underlying74
  have A0 := Aside0.mk (((At.start w).alloc #[.slice pA0 x.funcs.length pc0, .slice pA1 x.consts.length pc1] 74).alloc #[.slice qA0 y.funcs.length qc0, .slice qA1 y.consts.length qc1] 74)
  rw [show (w.alloc (.cells #[.slice pA0 x.funcs.length pc0, .slice pA1 x.consts.length pc1] 74)).heap.size = w.heap.size + 1 by simp] at A0
  by_cases h0 : x.funcs = y.funcs
  · skip
    have d0 : decide (x.funcs = y.funcs) = true := decide_eq_true h0
    by_cases h1 : x.consts = y.consts
    · skip
      have d1 : decide (x.consts = y.consts) = true := decide_eq_true h1
      have hfin : decide (x = y) = true := decide_eq_true (by cases x; cases y; simp_all)
      have HF := Aside0.mk hfin
      clear hfin
      clear h0
      clear h1
      go_enter Try.func51, Try.ntmps51
      go_wp2_with fail
      refine (eqFuncS _ _ _ _ _ _ _ (A0.out.reads pG0.out) (A0.out.reads qG0.out)).mono ?_
      rintro e w1 ⟨rfl, hb0⟩
      have hb := hb0
      have A1 := Aside0.mk (A0.out.step hb)
      clear hb hb0 A0
      have z0 := A1.out.cell1; have z1 := A1.out.cell0
      go_wp2_with fail
      refine (eqConstS _ _ _ _ _ _ _ (A1.out.reads pG1.out) (A1.out.reads qG1.out)).mono ?_
      rintro e w2 ⟨rfl, hb0⟩
      have hb := hb0
      have A2 := Aside0.mk (A1.out.step hb)
      clear hb hb0 A1 z0 z1
      have z0 := A2.out.cell1; have z1 := A2.out.cell0
      go_wp2
      go_ret
      exact ⟨by rw [HF.out]; rfl, A2.out.below⟩
    · skip
      have d1 : decide (x.consts = y.consts) = false := decide_eq_false h1
      have hfin : decide (x = y) = false := decide_eq_false (fun e => h1 (by rw [e]))
      have HF := Aside0.mk hfin
      clear hfin
      clear h0
      clear h1
      go_enter Try.func51, Try.ntmps51
      go_wp2_with fail
      refine (eqFuncS _ _ _ _ _ _ _ (A0.out.reads pG0.out) (A0.out.reads qG0.out)).mono ?_
      rintro e w1 ⟨rfl, hb0⟩
      have hb := hb0
      have A1 := Aside0.mk (A0.out.step hb)
      clear hb hb0 A0
      have z0 := A1.out.cell1; have z1 := A1.out.cell0
      go_wp2_with fail
      refine (eqConstS _ _ _ _ _ _ _ (A1.out.reads pG1.out) (A1.out.reads qG1.out)).mono ?_
      rintro e w2 ⟨rfl, hb0⟩
      have hb := hb0
      have A2 := Aside0.mk (A1.out.step hb)
      clear hb hb0 A1 z0 z1
      have z0 := A2.out.cell1; have z1 := A2.out.cell0
      go_wp2
      go_ret
      exact ⟨by rw [HF.out]; rfl, A2.out.below⟩
  · skip
    have d0 : decide (x.funcs = y.funcs) = false := decide_eq_false h0
    have hfin : decide (x = y) = false := decide_eq_false (fun e => h0 (by rw [e]))
    have HF := Aside0.mk hfin
    clear hfin
    clear h0
    go_enter Try.func51, Try.ntmps51
    go_wp2_with fail
    refine (eqFuncS _ _ _ _ _ _ _ (A0.out.reads pG0.out) (A0.out.reads qG0.out)).mono ?_
    rintro e w1 ⟨rfl, hb0⟩
    have hb := hb0
    have A1 := Aside0.mk (A0.out.step hb)
    clear hb hb0 A0
    have z0 := A1.out.cell1; have z1 := A1.out.cell0
    go_wp2
    go_ret
    exact ⟨by rw [HF.out]; rfl, A1.out.below⟩
end Go.Proofs.Ytdgjbpefbkgnpaa
