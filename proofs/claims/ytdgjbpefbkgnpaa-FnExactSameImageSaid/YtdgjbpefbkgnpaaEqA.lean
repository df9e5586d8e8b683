/- Contracts of the laws' own functions, by program: they compare what they are handed. No condition beyond what the arguments read as. -/
import Derived.Test.YtdgjbpefbkgnpaaKinds
import Derived.Test.YtdgjbpefbkgnpaaLaw
import Derived.Test.YtdgjbpefbkgnpaaNum
import Derived.WalkKit
import Derived.KernelRfl
import Derived.Deep.LoopGhost
import Derived.Deep.QuietTactic
import Derived.BigQuiet
import Derived.RowKit3
import Derived.Deep.RegionWith
import Derived.Deep.RegionHeld3
import Derived.WalkLawsBesides
namespace Go.Proofs.Ytdgjbpefbkgnpaa
open Go.RowKit Go.Proofs.YtdgjbpefbkgnpaaW.PrintWords Go.Proofs.YtdgjbpefbkgnpaaW.PrintMore Go.Proofs.Ytdgjbpefbkgnpaa.Law Go.Proofs.Ytdgjbpefbkgnpaa.Num
set_option linter.unusedVariables false
set_option linter.unusedSimpArgs false
set_option maxHeartbeats 4000000 in
set_option maxRecDepth 100000 in
theorem eqIntS (A B : Option Addr) (c d : Nat) (l m : List Int) (w : World) (hr : (Kd.int .i64).C w A l.length l) (hr2 : (Kd.int .i64).C w B m.length m) :
    Calls Try.prog 75 #[.slice A l.length c, .slice B m.length d] w fun e w' => e = .returned (.bool (decide (l = m))) ∧ Drawn0 w w' := by
  have hL : l.length ≤ 9223372036854775807 := hr.2.1
  by_cases hlen : l.length = m.length
  · have b1 : ((l.length : Int) != (m.length : Int)) = false := by simp [hlen]
    have HR := Aside0.mk hr; have HR2 := Aside0.mk hr2; have HL := Aside0.mk hlen
    clear hr hr2 hlen
    go_enter Try.func75, Try.ntmps75
    go_wp2
    go_loopw [5] (fun v wr => ∃ j : Nat, v = .int .i64 j ∧ j ≤ l.length ∧ Aside0 (∀ i : Nat, i < j → el 0 l i = el 0 m i) ∧ Drawn0 w wr) (fun v _ => l.length - (intOf v).toNat)
    case atStart => exact ⟨0, rfl, by omega, ⟨fun i hi => by omega⟩, Drawn0.refl _⟩
    case round =>
      obtain ⟨j, rfl, hj, HE, HW⟩ := hrel
      obtain ⟨⟨n, rfl⟩⟩ := HW
      by_cases hlt : j < l.length
      · obtain ⟨a, rfl, ha⟩ := int_at HR.out j hlt
        obtain ⟨a2, rfl, ha2⟩ := int_at HR2.out j (by have := HL.out; omega)
        have i1 : (0 : Int) ≤ (j : Int) := by omega
        have i2 : (j : Int) < (l.length : Int) := by omega
        have i3 : (j : Int) < (m.length : Int) := by have := HL.out; omega
        by_cases he : el 0 l j = el 0 m j
        · have b2 : (el 0 l j != el 0 m j) = false := by simpa using he
          have HE2 := Aside0.mk he
          clear he
          go_wp2
          go_quiet (fail)
          go_wp2
          go_roundw
          case rel => exact ⟨j + 1, by go_num, by omega, ⟨fun i hi => by rcases Nat.lt_succ_iff_lt_or_eq.1 hi with h | h; exact HE.out i h; rw [h]; exact HE2.out⟩, (by first | exact ⟨⟨_, rfl⟩⟩ | exact Drawn0.step ⟨⟨_, rfl⟩⟩ _)⟩
          case measure => simp [intOf]; omega
        · have b2 : (el 0 l j != el 0 m j) = true := by simpa using he
          have HE2 := Aside0.mk he
          clear he
          go_wp2
          go_quiet (fail)
          go_wp2
          go_ret
          exact ⟨by rw [decide_eq_false (fun h => HE2.out (by rw [h]))]; rfl, (by first | exact ⟨⟨_, rfl⟩⟩ | exact Drawn0.step ⟨⟨_, rfl⟩⟩ _)⟩
      · go_wp2
        go_ret
        exact ⟨by rw [decide_eq_true (el_ext 0 HL.out (fun i hi => HE.out i (by omega)))]; rfl, ⟨⟨_, rfl⟩⟩⟩
  · have b1 : ((l.length : Int) != (m.length : Int)) = true := by simp; omega
    have HL := Aside0.mk hlen
    clear hr hr2 hlen
    go_enter Try.func75, Try.ntmps75
    go_wp2
    go_ret
    exact ⟨by rw [decide_eq_false (fun h => HL.out (by rw [h]))]; rfl, Drawn0.refl _⟩
set_option maxHeartbeats 4000000 in
set_option maxRecDepth 100000 in
theorem eqIns (x y : Ins) (cs ds : List Value) (w : World) (hk : kIns.K w x cs) (hk2 : kIns.K w y ds) :
    Calls Try.prog 159 #[.agg ⟨cs⟩, .agg ⟨ds⟩] w fun e w' => e = .returned (.bool (decide (x = y))) ∧ Below w.heap.size w w' := by
  have ecs := kIns_open hk
  subst ecs
  have eds := kIns_open hk2
  subst eds
  clear hk hk2
  have hu := Try.underlying121
  by_cases h0 : x.op = y.op
  · skip
    have b0 : (x.op == y.op) = true := beq_iff_eq.mpr h0
    have d0 : (x.op != y.op) = false := bne_eq_false_iff_eq.mpr h0
    by_cases h1 : x.a = y.a
    · skip
      have b1 : (x.a == y.a) = true := beq_iff_eq.mpr h1
      have d1 : (x.a != y.a) = false := bne_eq_false_iff_eq.mpr h1
      by_cases h2 : x.b = y.b
      · skip
        have b2 : (x.b == y.b) = true := beq_iff_eq.mpr h2
        have d2 : (x.b != y.b) = false := bne_eq_false_iff_eq.mpr h2
        have hfin : decide (x = y) = true := decide_eq_true (by cases x; cases y; simp_all)
        have HF := Aside0.mk hfin
        clear hfin
        clear h0
        clear h1
        clear h2
        go_enter Try.func159, Try.ntmps159
        go_wp2
        go_ret
        exact ⟨by rw [HF.out]; rfl, by repeat (first | exact Below.refl _ _ | apply below_alloc | apply below_drew1 | apply pw_below_drewN | assumption)⟩
      · skip
        have b2 : (x.b == y.b) = false := beq_eq_false_iff_ne.mpr h2
        have d2 : (x.b != y.b) = true := bne_iff_ne.mpr h2
        have hfin : decide (x = y) = false := decide_eq_false (fun e => h2 (by rw [e]))
        have HF := Aside0.mk hfin
        clear hfin
        clear h0
        clear h1
        clear h2
        go_enter Try.func159, Try.ntmps159
        go_wp2
        go_ret
        exact ⟨by rw [HF.out]; rfl, by repeat (first | exact Below.refl _ _ | apply below_alloc | apply below_drew1 | apply pw_below_drewN | assumption)⟩
    · skip
      have b1 : (x.a == y.a) = false := beq_eq_false_iff_ne.mpr h1
      have d1 : (x.a != y.a) = true := bne_iff_ne.mpr h1
      have hfin : decide (x = y) = false := decide_eq_false (fun e => h1 (by rw [e]))
      have HF := Aside0.mk hfin
      clear hfin
      clear h0
      clear h1
      go_enter Try.func159, Try.ntmps159
      go_wp2
      go_ret
      exact ⟨by rw [HF.out]; rfl, by repeat (first | exact Below.refl _ _ | apply below_alloc | apply below_drew1 | apply pw_below_drewN | assumption)⟩
  · skip
    have b0 : (x.op == y.op) = false := beq_eq_false_iff_ne.mpr h0
    have d0 : (x.op != y.op) = true := bne_iff_ne.mpr h0
    have hfin : decide (x = y) = false := decide_eq_false (fun e => h0 (by rw [e]))
    have HF := Aside0.mk hfin
    clear hfin
    clear h0
    go_enter Try.func159, Try.ntmps159
    go_wp2
    go_ret
    exact ⟨by rw [HF.out]; rfl, by repeat (first | exact Below.refl _ _ | apply below_alloc | apply below_drew1 | apply pw_below_drewN | assumption)⟩
set_option maxHeartbeats 4000000 in
set_option maxRecDepth 100000 in
theorem eqInsS (A B : Option Addr) (c d : Nat) (l m : List Ins) (w : World) (hr : kIns.C w A l.length l) (hr2 : kIns.C w B m.length m) :
    Calls Try.prog 144 #[.slice A l.length c, .slice B m.length d] w fun e w' => e = .returned (.bool (decide (l = m))) ∧ Below w.heap.size w w' := by
  have hL : l.length ≤ 9223372036854775807 := hr.2.1
  by_cases hlen : l.length = m.length
  · have b1 : ((l.length : Int) != (m.length : Int)) = false := by simp [hlen]
    have HR := Aside0.mk hr; have HR2 := Aside0.mk hr2; have HL := Aside0.mk hlen
    clear hr hr2 hlen
    go_enter Try.func144, Try.ntmps144
    go_wp2
    go_loopw [5] (fun v wr => ∃ j : Nat, v = .int .i64 j ∧ j ≤ l.length ∧ Aside0 (∀ i : Nat, i < j → el zIns l i = el zIns m i) ∧ Aside0 (Below w.heap.size w wr)) (fun v _ => l.length - (intOf v).toNat)
    case atStart => exact ⟨0, rfl, by omega, ⟨fun i hi => by omega⟩, ⟨Below.refl _ _⟩⟩
    case round =>
      obtain ⟨j, rfl, hj, HE, HW⟩ := hrel
      by_cases hlt : j < l.length
      · obtain ⟨pa, rfl, pK, px0, px1, px2⟩ := Ins_at (Kd.C_below HR.out HW.out) j hlt
        have pK2 := Aside0.mk pK; clear pK
        obtain ⟨qa, rfl, qK, qx0, qx1, qx2⟩ := Ins_at (Kd.C_below HR2.out HW.out) j (by have := HL.out; omega)
        have qK2 := Aside0.mk qK; clear qK
        have i1 : (0 : Int) ≤ (j : Int) := by omega
        have i2 : (j : Int) < (l.length : Int) := by omega
        have i3 : (j : Int) < (m.length : Int) := by have := HL.out; omega
        by_cases he : el zIns l j = el zIns m j
        · have b2 : decide (el zIns l j = el zIns m j) = true := decide_eq_true he
          have HE2 := Aside0.mk he
          clear he
          go_wp2
          have HS : Aside0 (∀ W : World, Below wr.heap.size wr W → W.cell? (pa.add (j * 3)) = some (.int .i64 (el zIns l j).op) ∧ W.cell? ⟨(pa.add (j * 3)).block, (pa.add (j * 3)).off + 1, none⟩ = some (.int .i64 (el zIns l j).a) ∧ W.cell? ⟨(pa.add (j * 3)).block, (pa.add (j * 3)).off + 2, none⟩ = some (.int .i64 (el zIns l j).b) ∧ W.cell? (qa.add (j * 3)) = some (.int .i64 (el zIns m j).op) ∧ W.cell? ⟨(qa.add (j * 3)).block, (qa.add (j * 3)).off + 1, none⟩ = some (.int .i64 (el zIns m j).a) ∧ W.cell? ⟨(qa.add (j * 3)).block, (qa.add (j * 3)).off + 2, none⟩ = some (.int .i64 (el zIns m j).b)) := ⟨fun W hB => ⟨pw_cell_below hB px0, pw_cell_below hB px1, pw_cell_below hB px2, pw_cell_below hB qx0, pw_cell_below hB qx1, pw_cell_below hB qx2⟩⟩
          go_region_held3 (fun W => W.cell? (pa.add (j * 3)) = some (.int .i64 (el zIns l j).op) ∧ W.cell? ⟨(pa.add (j * 3)).block, (pa.add (j * 3)).off + 1, none⟩ = some (.int .i64 (el zIns l j).a) ∧ W.cell? ⟨(pa.add (j * 3)).block, (pa.add (j * 3)).off + 2, none⟩ = some (.int .i64 (el zIns l j).b) ∧ W.cell? (qa.add (j * 3)) = some (.int .i64 (el zIns m j).op) ∧ W.cell? ⟨(qa.add (j * 3)).block, (qa.add (j * 3)).off + 1, none⟩ = some (.int .i64 (el zIns m j).a) ∧ W.cell? ⟨(qa.add (j * 3)).block, (qa.add (j * 3)).off + 2, none⟩ = some (.int .i64 (el zIns m j).b)) (first | exact HS.out _ (below_step (below_drew1 (Below.refl _ _)) hb) | exact HS.out _ (below_drew1 (Below.refl _ _))) (first | (go_at_call 159; refine (eqIns (el zIns l j) (el zIns m j) _ _ _ ?s1 ?s2).mono ?_; (case s1 => exact Kd.K_drew0 pK2.out); (case s2 => exact Kd.K_drew0 qK2.out); rintro e w1 ⟨rfl, hb⟩))
          go_wp2
          go_roundw
          case rel => exact ⟨j + 1, by go_num, by omega, ⟨fun i hi => by rcases Nat.lt_succ_iff_lt_or_eq.1 hi with h | h; exact HE.out i h; rw [h]; exact HE2.out⟩, ⟨below_step (below_drew1 HW.out) hb⟩⟩
          case measure => simp [intOf]; omega
        · have b2 : decide (el zIns l j = el zIns m j) = false := decide_eq_false he
          have HE2 := Aside0.mk he
          clear he
          go_wp2
          have HS : Aside0 (∀ W : World, Below wr.heap.size wr W → W.cell? (pa.add (j * 3)) = some (.int .i64 (el zIns l j).op) ∧ W.cell? ⟨(pa.add (j * 3)).block, (pa.add (j * 3)).off + 1, none⟩ = some (.int .i64 (el zIns l j).a) ∧ W.cell? ⟨(pa.add (j * 3)).block, (pa.add (j * 3)).off + 2, none⟩ = some (.int .i64 (el zIns l j).b) ∧ W.cell? (qa.add (j * 3)) = some (.int .i64 (el zIns m j).op) ∧ W.cell? ⟨(qa.add (j * 3)).block, (qa.add (j * 3)).off + 1, none⟩ = some (.int .i64 (el zIns m j).a) ∧ W.cell? ⟨(qa.add (j * 3)).block, (qa.add (j * 3)).off + 2, none⟩ = some (.int .i64 (el zIns m j).b)) := ⟨fun W hB => ⟨pw_cell_below hB px0, pw_cell_below hB px1, pw_cell_below hB px2, pw_cell_below hB qx0, pw_cell_below hB qx1, pw_cell_below hB qx2⟩⟩
          go_region_held3 (fun W => W.cell? (pa.add (j * 3)) = some (.int .i64 (el zIns l j).op) ∧ W.cell? ⟨(pa.add (j * 3)).block, (pa.add (j * 3)).off + 1, none⟩ = some (.int .i64 (el zIns l j).a) ∧ W.cell? ⟨(pa.add (j * 3)).block, (pa.add (j * 3)).off + 2, none⟩ = some (.int .i64 (el zIns l j).b) ∧ W.cell? (qa.add (j * 3)) = some (.int .i64 (el zIns m j).op) ∧ W.cell? ⟨(qa.add (j * 3)).block, (qa.add (j * 3)).off + 1, none⟩ = some (.int .i64 (el zIns m j).a) ∧ W.cell? ⟨(qa.add (j * 3)).block, (qa.add (j * 3)).off + 2, none⟩ = some (.int .i64 (el zIns m j).b)) (first | exact HS.out _ (below_step (below_drew1 (Below.refl _ _)) hb) | exact HS.out _ (below_drew1 (Below.refl _ _))) (first | (go_at_call 159; refine (eqIns (el zIns l j) (el zIns m j) _ _ _ ?s1 ?s2).mono ?_; (case s1 => exact Kd.K_drew0 pK2.out); (case s2 => exact Kd.K_drew0 qK2.out); rintro e w1 ⟨rfl, hb⟩))
          go_wp2
          go_ret
          exact ⟨by rw [decide_eq_false (fun h => HE2.out (by rw [h]))]; rfl, below_step (below_drew1 HW.out) hb⟩
      · go_wp2
        go_ret
        exact ⟨by rw [decide_eq_true (el_ext zIns HL.out (fun i hi => HE.out i (by omega)))]; rfl, HW.out⟩
  · have b1 : ((l.length : Int) != (m.length : Int)) = true := by simp; omega
    have HL := Aside0.mk hlen
    clear hr hr2 hlen
    go_enter Try.func144, Try.ntmps144
    go_wp2
    go_ret
    exact ⟨by rw [decide_eq_false (fun h => HL.out (by rw [h]))]; rfl, Below.refl _ _⟩
set_option maxHeartbeats 4000000 in
set_option maxRecDepth 100000 in
theorem eqCap (x y : Cap) (cs ds : List Value) (w : World) (hk : kCap.K w x cs) (hk2 : kCap.K w y ds) :
    Calls Try.prog 158 #[.agg ⟨cs⟩, .agg ⟨ds⟩] w fun e w' => e = .returned (.bool (decide (x = y))) ∧ Below w.heap.size w w' := by
  have ecs := kCap_open hk
  subst ecs
  have eds := kCap_open hk2
  subst eds
  clear hk hk2
  have hu := Try.underlying118
  by_cases h0 : x.reg = y.reg
  · skip
    have b0 : (x.reg == y.reg) = true := beq_iff_eq.mpr h0
    have d0 : (x.reg != y.reg) = false := bne_eq_false_iff_eq.mpr h0
    by_cases h1 : x.index = y.index
    · skip
      have b1 : (x.index == y.index) = true := beq_iff_eq.mpr h1
      have d1 : (x.index != y.index) = false := bne_eq_false_iff_eq.mpr h1
      have hfin : decide (x = y) = true := decide_eq_true (by cases x; cases y; simp_all)
      have HF := Aside0.mk hfin
      clear hfin
      clear h0
      clear h1
      go_enter Try.func158, Try.ntmps158
      go_wp2
      go_ret
      exact ⟨by rw [HF.out]; rfl, by repeat (first | exact Below.refl _ _ | apply below_alloc | apply below_drew1 | apply pw_below_drewN | assumption)⟩
    · skip
      have b1 : (x.index == y.index) = false := beq_eq_false_iff_ne.mpr h1
      have d1 : (x.index != y.index) = true := bne_iff_ne.mpr h1
      have hfin : decide (x = y) = false := decide_eq_false (fun e => h1 (by rw [e]))
      have HF := Aside0.mk hfin
      clear hfin
      clear h0
      clear h1
      go_enter Try.func158, Try.ntmps158
      go_wp2
      go_ret
      exact ⟨by rw [HF.out]; rfl, by repeat (first | exact Below.refl _ _ | apply below_alloc | apply below_drew1 | apply pw_below_drewN | assumption)⟩
  · skip
    have b0 : (x.reg == y.reg) = false := beq_eq_false_iff_ne.mpr h0
    have d0 : (x.reg != y.reg) = true := bne_iff_ne.mpr h0
    have hfin : decide (x = y) = false := decide_eq_false (fun e => h0 (by rw [e]))
    have HF := Aside0.mk hfin
    clear hfin
    clear h0
    go_enter Try.func158, Try.ntmps158
    go_wp2
    go_ret
    exact ⟨by rw [HF.out]; rfl, by repeat (first | exact Below.refl _ _ | apply below_alloc | apply below_drew1 | apply pw_below_drewN | assumption)⟩
set_option maxHeartbeats 4000000 in
set_option maxRecDepth 100000 in
theorem eqCapS (A B : Option Addr) (c d : Nat) (l m : List Cap) (w : World) (hr : kCap.C w A l.length l) (hr2 : kCap.C w B m.length m) :
    Calls Try.prog 143 #[.slice A l.length c, .slice B m.length d] w fun e w' => e = .returned (.bool (decide (l = m))) ∧ Below w.heap.size w w' := by
  have hL : l.length ≤ 9223372036854775807 := hr.2.1
  by_cases hlen : l.length = m.length
  · have b1 : ((l.length : Int) != (m.length : Int)) = false := by simp [hlen]
    have HR := Aside0.mk hr; have HR2 := Aside0.mk hr2; have HL := Aside0.mk hlen
    clear hr hr2 hlen
    go_enter Try.func143, Try.ntmps143
    go_wp2
    go_loopw [5] (fun v wr => ∃ j : Nat, v = .int .i64 j ∧ j ≤ l.length ∧ Aside0 (∀ i : Nat, i < j → el zCap l i = el zCap m i) ∧ Aside0 (Below w.heap.size w wr)) (fun v _ => l.length - (intOf v).toNat)
    case atStart => exact ⟨0, rfl, by omega, ⟨fun i hi => by omega⟩, ⟨Below.refl _ _⟩⟩
    case round =>
      obtain ⟨j, rfl, hj, HE, HW⟩ := hrel
      by_cases hlt : j < l.length
      · obtain ⟨pa, rfl, pK, px0, px1⟩ := Cap_at (Kd.C_below HR.out HW.out) j hlt
        have pK2 := Aside0.mk pK; clear pK
        obtain ⟨qa, rfl, qK, qx0, qx1⟩ := Cap_at (Kd.C_below HR2.out HW.out) j (by have := HL.out; omega)
        have qK2 := Aside0.mk qK; clear qK
        have i1 : (0 : Int) ≤ (j : Int) := by omega
        have i2 : (j : Int) < (l.length : Int) := by omega
        have i3 : (j : Int) < (m.length : Int) := by have := HL.out; omega
        by_cases he : el zCap l j = el zCap m j
        · have b2 : decide (el zCap l j = el zCap m j) = true := decide_eq_true he
          have HE2 := Aside0.mk he
          clear he
          go_wp2
          have HS : Aside0 (∀ W : World, Below wr.heap.size wr W → W.cell? (pa.add (j * 2)) = some (.bool (el zCap l j).reg) ∧ W.cell? ⟨(pa.add (j * 2)).block, (pa.add (j * 2)).off + 1, none⟩ = some (.int .i64 (el zCap l j).index) ∧ W.cell? (qa.add (j * 2)) = some (.bool (el zCap m j).reg) ∧ W.cell? ⟨(qa.add (j * 2)).block, (qa.add (j * 2)).off + 1, none⟩ = some (.int .i64 (el zCap m j).index)) := ⟨fun W hB => ⟨pw_cell_below hB px0, pw_cell_below hB px1, pw_cell_below hB qx0, pw_cell_below hB qx1⟩⟩
          go_region_held3 (fun W => W.cell? (pa.add (j * 2)) = some (.bool (el zCap l j).reg) ∧ W.cell? ⟨(pa.add (j * 2)).block, (pa.add (j * 2)).off + 1, none⟩ = some (.int .i64 (el zCap l j).index) ∧ W.cell? (qa.add (j * 2)) = some (.bool (el zCap m j).reg) ∧ W.cell? ⟨(qa.add (j * 2)).block, (qa.add (j * 2)).off + 1, none⟩ = some (.int .i64 (el zCap m j).index)) (first | exact HS.out _ (below_step (below_drew1 (Below.refl _ _)) hb) | exact HS.out _ (below_drew1 (Below.refl _ _))) (first | (go_at_call 158; refine (eqCap (el zCap l j) (el zCap m j) _ _ _ ?s1 ?s2).mono ?_; (case s1 => exact Kd.K_drew0 pK2.out); (case s2 => exact Kd.K_drew0 qK2.out); rintro e w1 ⟨rfl, hb⟩))
          go_wp2
          go_roundw
          case rel => exact ⟨j + 1, by go_num, by omega, ⟨fun i hi => by rcases Nat.lt_succ_iff_lt_or_eq.1 hi with h | h; exact HE.out i h; rw [h]; exact HE2.out⟩, ⟨below_step (below_drew1 HW.out) hb⟩⟩
          case measure => simp [intOf]; omega
        · have b2 : decide (el zCap l j = el zCap m j) = false := decide_eq_false he
          have HE2 := Aside0.mk he
          clear he
          go_wp2
          have HS : Aside0 (∀ W : World, Below wr.heap.size wr W → W.cell? (pa.add (j * 2)) = some (.bool (el zCap l j).reg) ∧ W.cell? ⟨(pa.add (j * 2)).block, (pa.add (j * 2)).off + 1, none⟩ = some (.int .i64 (el zCap l j).index) ∧ W.cell? (qa.add (j * 2)) = some (.bool (el zCap m j).reg) ∧ W.cell? ⟨(qa.add (j * 2)).block, (qa.add (j * 2)).off + 1, none⟩ = some (.int .i64 (el zCap m j).index)) := ⟨fun W hB => ⟨pw_cell_below hB px0, pw_cell_below hB px1, pw_cell_below hB qx0, pw_cell_below hB qx1⟩⟩
          go_region_held3 (fun W => W.cell? (pa.add (j * 2)) = some (.bool (el zCap l j).reg) ∧ W.cell? ⟨(pa.add (j * 2)).block, (pa.add (j * 2)).off + 1, none⟩ = some (.int .i64 (el zCap l j).index) ∧ W.cell? (qa.add (j * 2)) = some (.bool (el zCap m j).reg) ∧ W.cell? ⟨(qa.add (j * 2)).block, (qa.add (j * 2)).off + 1, none⟩ = some (.int .i64 (el zCap m j).index)) (first | exact HS.out _ (below_step (below_drew1 (Below.refl _ _)) hb) | exact HS.out _ (below_drew1 (Below.refl _ _))) (first | (go_at_call 158; refine (eqCap (el zCap l j) (el zCap m j) _ _ _ ?s1 ?s2).mono ?_; (case s1 => exact Kd.K_drew0 pK2.out); (case s2 => exact Kd.K_drew0 qK2.out); rintro e w1 ⟨rfl, hb⟩))
          go_wp2
          go_ret
          exact ⟨by rw [decide_eq_false (fun h => HE2.out (by rw [h]))]; rfl, below_step (below_drew1 HW.out) hb⟩
      · go_wp2
        go_ret
        exact ⟨by rw [decide_eq_true (el_ext zCap HL.out (fun i hi => HE.out i (by omega)))]; rfl, HW.out⟩
  · have b1 : ((l.length : Int) != (m.length : Int)) = true := by simp; omega
    have HL := Aside0.mk hlen
    clear hr hr2 hlen
    go_enter Try.func143, Try.ntmps143
    go_wp2
    go_ret
    exact ⟨by rw [decide_eq_false (fun h => HL.out (by rw [h]))]; rfl, Below.refl _ _⟩
set_option maxHeartbeats 4000000 in
set_option maxRecDepth 100000 in
theorem eqHandler (x y : Handler) (cs ds : List Value) (w : World) (hk : kHandler.K w x cs) (hk2 : kHandler.K w y ds) :
    Calls Try.prog 160 #[.agg ⟨cs⟩, .agg ⟨ds⟩] w fun e w' => e = .returned (.bool (decide (x = y))) ∧ Below w.heap.size w w' := by
  have ecs := kHandler_open hk
  subst ecs
  have eds := kHandler_open hk2
  subst eds
  clear hk hk2
  have hu := Try.underlying124
  by_cases h0 : x.from_ = y.from_
  · skip
    have b0 : (x.from_ == y.from_) = true := beq_iff_eq.mpr h0
    have d0 : (x.from_ != y.from_) = false := bne_eq_false_iff_eq.mpr h0
    by_cases h1 : x.to_ = y.to_
    · skip
      have b1 : (x.to_ == y.to_) = true := beq_iff_eq.mpr h1
      have d1 : (x.to_ != y.to_) = false := bne_eq_false_iff_eq.mpr h1
      by_cases h2 : x.target = y.target
      · skip
        have b2 : (x.target == y.target) = true := beq_iff_eq.mpr h2
        have d2 : (x.target != y.target) = false := bne_eq_false_iff_eq.mpr h2
        have hfin : decide (x = y) = true := decide_eq_true (by cases x; cases y; simp_all)
        have HF := Aside0.mk hfin
        clear hfin
        clear h0
        clear h1
        clear h2
        go_enter Try.func160, Try.ntmps160
        go_wp2
        go_ret
        exact ⟨by rw [HF.out]; rfl, by repeat (first | exact Below.refl _ _ | apply below_alloc | apply below_drew1 | apply pw_below_drewN | assumption)⟩
      · skip
        have b2 : (x.target == y.target) = false := beq_eq_false_iff_ne.mpr h2
        have d2 : (x.target != y.target) = true := bne_iff_ne.mpr h2
        have hfin : decide (x = y) = false := decide_eq_false (fun e => h2 (by rw [e]))
        have HF := Aside0.mk hfin
        clear hfin
        clear h0
        clear h1
        clear h2
        go_enter Try.func160, Try.ntmps160
        go_wp2
        go_ret
        exact ⟨by rw [HF.out]; rfl, by repeat (first | exact Below.refl _ _ | apply below_alloc | apply below_drew1 | apply pw_below_drewN | assumption)⟩
    · skip
      have b1 : (x.to_ == y.to_) = false := beq_eq_false_iff_ne.mpr h1
      have d1 : (x.to_ != y.to_) = true := bne_iff_ne.mpr h1
      have hfin : decide (x = y) = false := decide_eq_false (fun e => h1 (by rw [e]))
      have HF := Aside0.mk hfin
      clear hfin
      clear h0
      clear h1
      go_enter Try.func160, Try.ntmps160
      go_wp2
      go_ret
      exact ⟨by rw [HF.out]; rfl, by repeat (first | exact Below.refl _ _ | apply below_alloc | apply below_drew1 | apply pw_below_drewN | assumption)⟩
  · skip
    have b0 : (x.from_ == y.from_) = false := beq_eq_false_iff_ne.mpr h0
    have d0 : (x.from_ != y.from_) = true := bne_iff_ne.mpr h0
    have hfin : decide (x = y) = false := decide_eq_false (fun e => h0 (by rw [e]))
    have HF := Aside0.mk hfin
    clear hfin
    clear h0
    go_enter Try.func160, Try.ntmps160
    go_wp2
    go_ret
    exact ⟨by rw [HF.out]; rfl, by repeat (first | exact Below.refl _ _ | apply below_alloc | apply below_drew1 | apply pw_below_drewN | assumption)⟩
set_option maxHeartbeats 4000000 in
set_option maxRecDepth 100000 in
theorem eqHandlerS (A B : Option Addr) (c d : Nat) (l m : List Handler) (w : World) (hr : kHandler.C w A l.length l) (hr2 : kHandler.C w B m.length m) :
    Calls Try.prog 145 #[.slice A l.length c, .slice B m.length d] w fun e w' => e = .returned (.bool (decide (l = m))) ∧ Below w.heap.size w w' := by
  have hL : l.length ≤ 9223372036854775807 := hr.2.1
  by_cases hlen : l.length = m.length
  · have b1 : ((l.length : Int) != (m.length : Int)) = false := by simp [hlen]
    have HR := Aside0.mk hr; have HR2 := Aside0.mk hr2; have HL := Aside0.mk hlen
    clear hr hr2 hlen
    go_enter Try.func145, Try.ntmps145
    go_wp2
    go_loopw [5] (fun v wr => ∃ j : Nat, v = .int .i64 j ∧ j ≤ l.length ∧ Aside0 (∀ i : Nat, i < j → el zHandler l i = el zHandler m i) ∧ Aside0 (Below w.heap.size w wr)) (fun v _ => l.length - (intOf v).toNat)
    case atStart => exact ⟨0, rfl, by omega, ⟨fun i hi => by omega⟩, ⟨Below.refl _ _⟩⟩
    case round =>
      obtain ⟨j, rfl, hj, HE, HW⟩ := hrel
      by_cases hlt : j < l.length
      · obtain ⟨pa, rfl, pK, px0, px1, px2⟩ := Handler_at (Kd.C_below HR.out HW.out) j hlt
        have pK2 := Aside0.mk pK; clear pK
        obtain ⟨qa, rfl, qK, qx0, qx1, qx2⟩ := Handler_at (Kd.C_below HR2.out HW.out) j (by have := HL.out; omega)
        have qK2 := Aside0.mk qK; clear qK
        have i1 : (0 : Int) ≤ (j : Int) := by omega
        have i2 : (j : Int) < (l.length : Int) := by omega
        have i3 : (j : Int) < (m.length : Int) := by have := HL.out; omega
        by_cases he : el zHandler l j = el zHandler m j
        · have b2 : decide (el zHandler l j = el zHandler m j) = true := decide_eq_true he
          have HE2 := Aside0.mk he
          clear he
          go_wp2
          have HS : Aside0 (∀ W : World, Below wr.heap.size wr W → W.cell? (pa.add (j * 3)) = some (.int .i64 (el zHandler l j).from_) ∧ W.cell? ⟨(pa.add (j * 3)).block, (pa.add (j * 3)).off + 1, none⟩ = some (.int .i64 (el zHandler l j).to_) ∧ W.cell? ⟨(pa.add (j * 3)).block, (pa.add (j * 3)).off + 2, none⟩ = some (.int .i64 (el zHandler l j).target) ∧ W.cell? (qa.add (j * 3)) = some (.int .i64 (el zHandler m j).from_) ∧ W.cell? ⟨(qa.add (j * 3)).block, (qa.add (j * 3)).off + 1, none⟩ = some (.int .i64 (el zHandler m j).to_) ∧ W.cell? ⟨(qa.add (j * 3)).block, (qa.add (j * 3)).off + 2, none⟩ = some (.int .i64 (el zHandler m j).target)) := ⟨fun W hB => ⟨pw_cell_below hB px0, pw_cell_below hB px1, pw_cell_below hB px2, pw_cell_below hB qx0, pw_cell_below hB qx1, pw_cell_below hB qx2⟩⟩
          go_region_held3 (fun W => W.cell? (pa.add (j * 3)) = some (.int .i64 (el zHandler l j).from_) ∧ W.cell? ⟨(pa.add (j * 3)).block, (pa.add (j * 3)).off + 1, none⟩ = some (.int .i64 (el zHandler l j).to_) ∧ W.cell? ⟨(pa.add (j * 3)).block, (pa.add (j * 3)).off + 2, none⟩ = some (.int .i64 (el zHandler l j).target) ∧ W.cell? (qa.add (j * 3)) = some (.int .i64 (el zHandler m j).from_) ∧ W.cell? ⟨(qa.add (j * 3)).block, (qa.add (j * 3)).off + 1, none⟩ = some (.int .i64 (el zHandler m j).to_) ∧ W.cell? ⟨(qa.add (j * 3)).block, (qa.add (j * 3)).off + 2, none⟩ = some (.int .i64 (el zHandler m j).target)) (first | exact HS.out _ (below_step (below_drew1 (Below.refl _ _)) hb) | exact HS.out _ (below_drew1 (Below.refl _ _))) (first | (go_at_call 160; refine (eqHandler (el zHandler l j) (el zHandler m j) _ _ _ ?s1 ?s2).mono ?_; (case s1 => exact Kd.K_drew0 pK2.out); (case s2 => exact Kd.K_drew0 qK2.out); rintro e w1 ⟨rfl, hb⟩))
          go_wp2
          go_roundw
          case rel => exact ⟨j + 1, by go_num, by omega, ⟨fun i hi => by rcases Nat.lt_succ_iff_lt_or_eq.1 hi with h | h; exact HE.out i h; rw [h]; exact HE2.out⟩, ⟨below_step (below_drew1 HW.out) hb⟩⟩
          case measure => simp [intOf]; omega
        · have b2 : decide (el zHandler l j = el zHandler m j) = false := decide_eq_false he
          have HE2 := Aside0.mk he
          clear he
          go_wp2
          have HS : Aside0 (∀ W : World, Below wr.heap.size wr W → W.cell? (pa.add (j * 3)) = some (.int .i64 (el zHandler l j).from_) ∧ W.cell? ⟨(pa.add (j * 3)).block, (pa.add (j * 3)).off + 1, none⟩ = some (.int .i64 (el zHandler l j).to_) ∧ W.cell? ⟨(pa.add (j * 3)).block, (pa.add (j * 3)).off + 2, none⟩ = some (.int .i64 (el zHandler l j).target) ∧ W.cell? (qa.add (j * 3)) = some (.int .i64 (el zHandler m j).from_) ∧ W.cell? ⟨(qa.add (j * 3)).block, (qa.add (j * 3)).off + 1, none⟩ = some (.int .i64 (el zHandler m j).to_) ∧ W.cell? ⟨(qa.add (j * 3)).block, (qa.add (j * 3)).off + 2, none⟩ = some (.int .i64 (el zHandler m j).target)) := ⟨fun W hB => ⟨pw_cell_below hB px0, pw_cell_below hB px1, pw_cell_below hB px2, pw_cell_below hB qx0, pw_cell_below hB qx1, pw_cell_below hB qx2⟩⟩
          go_region_held3 (fun W => W.cell? (pa.add (j * 3)) = some (.int .i64 (el zHandler l j).from_) ∧ W.cell? ⟨(pa.add (j * 3)).block, (pa.add (j * 3)).off + 1, none⟩ = some (.int .i64 (el zHandler l j).to_) ∧ W.cell? ⟨(pa.add (j * 3)).block, (pa.add (j * 3)).off + 2, none⟩ = some (.int .i64 (el zHandler l j).target) ∧ W.cell? (qa.add (j * 3)) = some (.int .i64 (el zHandler m j).from_) ∧ W.cell? ⟨(qa.add (j * 3)).block, (qa.add (j * 3)).off + 1, none⟩ = some (.int .i64 (el zHandler m j).to_) ∧ W.cell? ⟨(qa.add (j * 3)).block, (qa.add (j * 3)).off + 2, none⟩ = some (.int .i64 (el zHandler m j).target)) (first | exact HS.out _ (below_step (below_drew1 (Below.refl _ _)) hb) | exact HS.out _ (below_drew1 (Below.refl _ _))) (first | (go_at_call 160; refine (eqHandler (el zHandler l j) (el zHandler m j) _ _ _ ?s1 ?s2).mono ?_; (case s1 => exact Kd.K_drew0 pK2.out); (case s2 => exact Kd.K_drew0 qK2.out); rintro e w1 ⟨rfl, hb⟩))
          go_wp2
          go_ret
          exact ⟨by rw [decide_eq_false (fun h => HE2.out (by rw [h]))]; rfl, below_step (below_drew1 HW.out) hb⟩
      · go_wp2
        go_ret
        exact ⟨by rw [decide_eq_true (el_ext zHandler HL.out (fun i hi => HE.out i (by omega)))]; rfl, HW.out⟩
  · have b1 : ((l.length : Int) != (m.length : Int)) = true := by simp; omega
    have HL := Aside0.mk hlen
    clear hr hr2 hlen
    go_enter Try.func145, Try.ntmps145
    go_wp2
    go_ret
    exact ⟨by rw [decide_eq_false (fun h => HL.out (by rw [h]))]; rfl, Below.refl _ _⟩
set_option maxHeartbeats 4000000 in
set_option maxRecDepth 100000 in
theorem eqConst (x y : Const) (cs ds : List Value) (w : World) (hk : kConst.K w x cs) (hk2 : kConst.K w y ds) :
    Calls Try.prog 119 #[.agg ⟨cs⟩, .agg ⟨ds⟩] w fun e w' => e = .returned (.bool (decide (x = y))) ∧ Below w.heap.size w w' := by
  have ecs := kConst_open hk
  subst ecs
  have eds := kConst_open hk2
  subst eds
  clear hk hk2
  have hu := Try.underlying105
  by_cases h0 : x.kind = y.kind
  · skip
    have b0 : (x.kind == y.kind) = true := beq_iff_eq.mpr h0
    have d0 : (x.kind != y.kind) = false := bne_eq_false_iff_eq.mpr h0
    by_cases h1 : x.num = y.num
    · skip
      have b1 : (x.num == y.num) = true := beq_iff_eq.mpr h1
      have d1 : (x.num != y.num) = false := bne_eq_false_iff_eq.mpr h1
      by_cases h2 : x.text = y.text
      · skip
        have b2 : (x.text.toList == y.text.toList) = true := by rw [h2]; exact beq_self_eq_true _
        have d2 : (x.text.toList != y.text.toList) = false := by rw [h2]; exact bne_self_eq_false _
        have hfin : decide (x = y) = true := decide_eq_true (by cases x; cases y; simp_all)
        have HF := Aside0.mk hfin
        clear hfin
        clear h0
        clear h1
        clear h2
        go_enter Try.func119, Try.ntmps119
        go_wp2
        go_ret
        exact ⟨by rw [HF.out]; rfl, by repeat (first | exact Below.refl _ _ | apply below_alloc | apply below_drew1 | apply pw_below_drewN | assumption)⟩
      · skip
        have n2 : ¬ x.text.toList = y.text.toList := fun e => h2 (bytes_ext e)
        have b2 : (x.text.toList == y.text.toList) = false := beq_eq_false_iff_ne.mpr n2
        have d2 : (x.text.toList != y.text.toList) = true := bne_iff_ne.mpr n2
        clear n2
        have hfin : decide (x = y) = false := decide_eq_false (fun e => h2 (by rw [e]))
        have HF := Aside0.mk hfin
        clear hfin
        clear h0
        clear h1
        clear h2
        go_enter Try.func119, Try.ntmps119
        go_wp2
        go_ret
        exact ⟨by rw [HF.out]; rfl, by repeat (first | exact Below.refl _ _ | apply below_alloc | apply below_drew1 | apply pw_below_drewN | assumption)⟩
    · skip
      have b1 : (x.num == y.num) = false := beq_eq_false_iff_ne.mpr h1
      have d1 : (x.num != y.num) = true := bne_iff_ne.mpr h1
      have hfin : decide (x = y) = false := decide_eq_false (fun e => h1 (by rw [e]))
      have HF := Aside0.mk hfin
      clear hfin
      clear h0
      clear h1
      go_enter Try.func119, Try.ntmps119
      go_wp2
      go_ret
      exact ⟨by rw [HF.out]; rfl, by repeat (first | exact Below.refl _ _ | apply below_alloc | apply below_drew1 | apply pw_below_drewN | assumption)⟩
  · skip
    have b0 : (x.kind == y.kind) = false := beq_eq_false_iff_ne.mpr h0
    have d0 : (x.kind != y.kind) = true := bne_iff_ne.mpr h0
    have hfin : decide (x = y) = false := decide_eq_false (fun e => h0 (by rw [e]))
    have HF := Aside0.mk hfin
    clear hfin
    clear h0
    go_enter Try.func119, Try.ntmps119
    go_wp2
    go_ret
    exact ⟨by rw [HF.out]; rfl, by repeat (first | exact Below.refl _ _ | apply below_alloc | apply below_drew1 | apply pw_below_drewN | assumption)⟩
set_option maxHeartbeats 4000000 in
set_option maxRecDepth 100000 in
theorem eqConstS (A B : Option Addr) (c d : Nat) (l m : List Const) (w : World) (hr : kConst.C w A l.length l) (hr2 : kConst.C w B m.length m) :
    Calls Try.prog 96 #[.slice A l.length c, .slice B m.length d] w fun e w' => e = .returned (.bool (decide (l = m))) ∧ Below w.heap.size w w' := by
  have hL : l.length ≤ 9223372036854775807 := hr.2.1
  by_cases hlen : l.length = m.length
  · have b1 : ((l.length : Int) != (m.length : Int)) = false := by simp [hlen]
    have HR := Aside0.mk hr; have HR2 := Aside0.mk hr2; have HL := Aside0.mk hlen
    clear hr hr2 hlen
    go_enter Try.func96, Try.ntmps96
    go_wp2
    go_loopw [5] (fun v wr => ∃ j : Nat, v = .int .i64 j ∧ j ≤ l.length ∧ Aside0 (∀ i : Nat, i < j → el zConst l i = el zConst m i) ∧ Aside0 (Below w.heap.size w wr)) (fun v _ => l.length - (intOf v).toNat)
    case atStart => exact ⟨0, rfl, by omega, ⟨fun i hi => by omega⟩, ⟨Below.refl _ _⟩⟩
    case round =>
      obtain ⟨j, rfl, hj, HE, HW⟩ := hrel
      by_cases hlt : j < l.length
      · obtain ⟨pa, rfl, pK, px0, px1, px2⟩ := Const_at (Kd.C_below HR.out HW.out) j hlt
        have pK2 := Aside0.mk pK; clear pK
        obtain ⟨qa, rfl, qK, qx0, qx1, qx2⟩ := Const_at (Kd.C_below HR2.out HW.out) j (by have := HL.out; omega)
        have qK2 := Aside0.mk qK; clear qK
        have i1 : (0 : Int) ≤ (j : Int) := by omega
        have i2 : (j : Int) < (l.length : Int) := by omega
        have i3 : (j : Int) < (m.length : Int) := by have := HL.out; omega
        by_cases he : el zConst l j = el zConst m j
        · have b2 : decide (el zConst l j = el zConst m j) = true := decide_eq_true he
          have HE2 := Aside0.mk he
          clear he
          go_wp2
          have HS : Aside0 (∀ W : World, Below wr.heap.size wr W → W.cell? (pa.add (j * 3)) = some (.int .i64 (el zConst l j).kind) ∧ W.cell? ⟨(pa.add (j * 3)).block, (pa.add (j * 3)).off + 1, none⟩ = some (.int .u64 (el zConst l j).num) ∧ W.cell? ⟨(pa.add (j * 3)).block, (pa.add (j * 3)).off + 2, none⟩ = some (.string (el zConst l j).text) ∧ W.cell? (qa.add (j * 3)) = some (.int .i64 (el zConst m j).kind) ∧ W.cell? ⟨(qa.add (j * 3)).block, (qa.add (j * 3)).off + 1, none⟩ = some (.int .u64 (el zConst m j).num) ∧ W.cell? ⟨(qa.add (j * 3)).block, (qa.add (j * 3)).off + 2, none⟩ = some (.string (el zConst m j).text)) := ⟨fun W hB => ⟨pw_cell_below hB px0, pw_cell_below hB px1, pw_cell_below hB px2, pw_cell_below hB qx0, pw_cell_below hB qx1, pw_cell_below hB qx2⟩⟩
          go_region_held3 (fun W => W.cell? (pa.add (j * 3)) = some (.int .i64 (el zConst l j).kind) ∧ W.cell? ⟨(pa.add (j * 3)).block, (pa.add (j * 3)).off + 1, none⟩ = some (.int .u64 (el zConst l j).num) ∧ W.cell? ⟨(pa.add (j * 3)).block, (pa.add (j * 3)).off + 2, none⟩ = some (.string (el zConst l j).text) ∧ W.cell? (qa.add (j * 3)) = some (.int .i64 (el zConst m j).kind) ∧ W.cell? ⟨(qa.add (j * 3)).block, (qa.add (j * 3)).off + 1, none⟩ = some (.int .u64 (el zConst m j).num) ∧ W.cell? ⟨(qa.add (j * 3)).block, (qa.add (j * 3)).off + 2, none⟩ = some (.string (el zConst m j).text)) (first | exact HS.out _ (below_step (below_drew1 (Below.refl _ _)) hb) | exact HS.out _ (below_drew1 (Below.refl _ _))) (first | (go_at_call 119; refine (eqConst (el zConst l j) (el zConst m j) _ _ _ ?s1 ?s2).mono ?_; (case s1 => exact Kd.K_drew0 pK2.out); (case s2 => exact Kd.K_drew0 qK2.out); rintro e w1 ⟨rfl, hb⟩))
          go_wp2
          go_roundw
          case rel => exact ⟨j + 1, by go_num, by omega, ⟨fun i hi => by rcases Nat.lt_succ_iff_lt_or_eq.1 hi with h | h; exact HE.out i h; rw [h]; exact HE2.out⟩, ⟨below_step (below_drew1 HW.out) hb⟩⟩
          case measure => simp [intOf]; omega
        · have b2 : decide (el zConst l j = el zConst m j) = false := decide_eq_false he
          have HE2 := Aside0.mk he
          clear he
          go_wp2
          have HS : Aside0 (∀ W : World, Below wr.heap.size wr W → W.cell? (pa.add (j * 3)) = some (.int .i64 (el zConst l j).kind) ∧ W.cell? ⟨(pa.add (j * 3)).block, (pa.add (j * 3)).off + 1, none⟩ = some (.int .u64 (el zConst l j).num) ∧ W.cell? ⟨(pa.add (j * 3)).block, (pa.add (j * 3)).off + 2, none⟩ = some (.string (el zConst l j).text) ∧ W.cell? (qa.add (j * 3)) = some (.int .i64 (el zConst m j).kind) ∧ W.cell? ⟨(qa.add (j * 3)).block, (qa.add (j * 3)).off + 1, none⟩ = some (.int .u64 (el zConst m j).num) ∧ W.cell? ⟨(qa.add (j * 3)).block, (qa.add (j * 3)).off + 2, none⟩ = some (.string (el zConst m j).text)) := ⟨fun W hB => ⟨pw_cell_below hB px0, pw_cell_below hB px1, pw_cell_below hB px2, pw_cell_below hB qx0, pw_cell_below hB qx1, pw_cell_below hB qx2⟩⟩
          go_region_held3 (fun W => W.cell? (pa.add (j * 3)) = some (.int .i64 (el zConst l j).kind) ∧ W.cell? ⟨(pa.add (j * 3)).block, (pa.add (j * 3)).off + 1, none⟩ = some (.int .u64 (el zConst l j).num) ∧ W.cell? ⟨(pa.add (j * 3)).block, (pa.add (j * 3)).off + 2, none⟩ = some (.string (el zConst l j).text) ∧ W.cell? (qa.add (j * 3)) = some (.int .i64 (el zConst m j).kind) ∧ W.cell? ⟨(qa.add (j * 3)).block, (qa.add (j * 3)).off + 1, none⟩ = some (.int .u64 (el zConst m j).num) ∧ W.cell? ⟨(qa.add (j * 3)).block, (qa.add (j * 3)).off + 2, none⟩ = some (.string (el zConst m j).text)) (first | exact HS.out _ (below_step (below_drew1 (Below.refl _ _)) hb) | exact HS.out _ (below_drew1 (Below.refl _ _))) (first | (go_at_call 119; refine (eqConst (el zConst l j) (el zConst m j) _ _ _ ?s1 ?s2).mono ?_; (case s1 => exact Kd.K_drew0 pK2.out); (case s2 => exact Kd.K_drew0 qK2.out); rintro e w1 ⟨rfl, hb⟩))
          go_wp2
          go_ret
          exact ⟨by rw [decide_eq_false (fun h => HE2.out (by rw [h]))]; rfl, below_step (below_drew1 HW.out) hb⟩
      · go_wp2
        go_ret
        exact ⟨by rw [decide_eq_true (el_ext zConst HL.out (fun i hi => HE.out i (by omega)))]; rfl, HW.out⟩
  · have b1 : ((l.length : Int) != (m.length : Int)) = true := by simp; omega
    have HL := Aside0.mk hlen
    clear hr hr2 hlen
    go_enter Try.func96, Try.ntmps96
    go_wp2
    go_ret
    exact ⟨by rw [decide_eq_false (fun h => HL.out (by rw [h]))]; rfl, Below.refl _ _⟩
end Go.Proofs.Ytdgjbpefbkgnpaa
