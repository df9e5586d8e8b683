/- Contracts of the laws' own functions, by program: they compare what they are handed. No condition beyond what the arguments read as. -/
import Derived.Test.YtdgjbpefbkgnpaaKinds
import Derived.Test.YtdgjbpefbkgnpaaLaw
import Derived.Test.YtdgjbpefbkgnpaaNum
import Derived.WalkKit
import Derived.KernelRfl
import Derived.Deep.LoopGhost
import Derived.Deep.QuietTactic
import Derived.BigQuiet
import Derived.RowKit3
import Derived.Deep.RegionWith
import Derived.Deep.RegionHeld3
import Derived.WalkLawsBesides
namespace Go.Proofs.Ytdgjbpefbkgnpaa
open Go.RowKit Go.Proofs.YtdgjbpefbkgnpaaW.PrintWords Go.Proofs.YtdgjbpefbkgnpaaW.PrintMore Go.Proofs.Ytdgjbpefbkgnpaa.Law Go.Proofs.Ytdgjbpefbkgnpaa.Num
set_option linter.unusedVariables false
set_option linter.unusedSimpArgs false
set_option maxHeartbeats 4000000 in
set_option maxRecDepth 100000 in
theorem eqIntS (A B : Option Addr) (c d : Nat) (l m : List Int) (w : World) (hr : (Kd.int .i64).C w A l.length l) (hr2 : (Kd.int .i64).C w B m.length m) :
    Calls Try.prog 75 #[.slice A l.length c, .slice B m.length d] w fun e w' => e = .returned (.bool (decide (l = m))) ∧ Drawn0 w w' := by
  have hL : l.length ≤ 9223372036854775807 := hr.2.1
  by_cases hlen : l.length = m.length
  · have b1 : ((l.length : Int) != (m.length : Int)) = false := by simp [hlen]
    have HR := Aside0.mk hr; have HR2 := Aside0.mk hr2; have HL := Aside0.mk hlen
    clear hr hr2 hlen
    go_enter Try.func75, Try.ntmps75
    go_wp2
    go_loopw [5] (fun v wr => ∃ j : Nat, v = .int .i64 j ∧ j ≤ l.length ∧ Aside0 (∀ i : Nat, i < j → el 0 l i = el 0 m i) ∧ Drawn0 w wr) (fun v _ => l.length - (intOf v).toNat)
    case atStart => exact ⟨0, rfl, by omega, ⟨fun i hi => by omega⟩, Drawn0.refl _⟩
    case round =>
      obtain ⟨j, rfl, hj, HE, HW⟩ := hrel
      obtain ⟨⟨n, rfl⟩⟩ := HW
      by_cases hlt : j < l.length
      · obtain ⟨a, rfl, ha⟩ := int_at HR.out j hlt
        obtain ⟨a2, rfl, ha2⟩ := int_at HR2.out j (by have := HL.out; omega)
        have i1 : (0 : Int) ≤ (j : Int) := by omega
        have i2 : (j : Int) < (l.length : Int) := by omega
        have i3 : (j : Int) < (m.length : Int) := by have := HL.out; omega
        by_cases he : el 0 l j = el 0 m j
        · have b2 : (el 0 l j != el 0 m j) = false := by simpa using he
          have HE2 := Aside0.mk he
          clear he
          go_wp2
          go_quiet (fail)
          go_wp2
          go_roundw
          case rel => exact ⟨j + 1, by go_num, by omega, ⟨fun i hi => by rcases Nat.lt_succ_iff_lt_or_eq.1 hi with h | h; exact HE.out i h; rw [h]; exact HE2.out⟩, (by first | exact ⟨⟨_, rfl⟩⟩ | exact Drawn0.step ⟨⟨_, rfl⟩⟩ _)⟩
          case measure => simp [intOf]; omega
        · have b2 : (el 0 l j != el 0 m j) = true := by simpa using he
          have HE2 := Aside0.mk he
          clear he
          go_wp2
          go_quiet (fail)
          go_wp2
          go_ret
          exact ⟨by rw [decide_eq_false (fun h => HE2.out (by rw [h]))]; rfl, (by first | exact ⟨⟨_, rfl⟩⟩ | exact Drawn0.step ⟨⟨_, rfl⟩⟩ _)⟩
      · go_wp2
        go_ret
        exact ⟨by rw [decide_eq_true (el_ext 0 HL.out (fun i hi => HE.out i (by omega)))]; rfl, ⟨⟨_, rfl⟩⟩⟩
  · have b1 : ((l.length : Int) != (m.length : Int)) = true := by simp; omega
    have HL := Aside0.mk hlen
    clear hr hr2 hlen
    go_enter Try.func75, Try.ntmps75
    go_wp2
    go_ret
    exact ⟨by rw [decide_eq_false (fun h => HL.out (by rw [h]))]; rfl, Drawn0.refl _⟩
set_option maxHeartbeats 4000000 in
set_option maxRecDepth 100000 in
theorem eqState (x y : State) (cs ds : List Value) (w : World) (hk : kStateI.K w x cs) (hk2 : kStateI.K w y ds) :
    Calls Try.prog 39 #[.agg ⟨cs⟩, .agg ⟨ds⟩] w fun e w' => e = .returned (.bool (decide (x = y))) ∧ Below w.heap.size w w' := by
  obtain ⟨pA1, pc1, rfl, pl1, pg1⟩ := kStateI_open hk
  have pG1 := Aside0.mk pg1; have pL1 := Aside0.mk pl1; clear pg1 pl1
  obtain ⟨qA1, qc1, rfl, ql1, qg1⟩ := kStateI_open hk2
  have qG1 := Aside0.mk qg1; have qL1 := Aside0.mk ql1; clear qg1 ql1
  clear hk hk2
  have hu := Try.underlying36
  have A0 := Aside0.mk (((At.start w).alloc #[.int .i64 x.acc, .slice pA1 x.regs.length pc1] 36).alloc #[.int .i64 y.acc, .slice qA1 y.regs.length qc1] 36)
  rw [show (w.alloc (.cells #[.int .i64 x.acc, .slice pA1 x.regs.length pc1] 36)).heap.size = w.heap.size + 1 by simp] at A0
  by_cases h0 : x.acc = y.acc
  · skip
    have b0 : (x.acc == y.acc) = true := beq_iff_eq.mpr h0
    have d0 : (x.acc != y.acc) = false := bne_eq_false_iff_eq.mpr h0
    by_cases h1 : x.regs = y.regs
    · skip
      have d1 : decide (x.regs = y.regs) = true := decide_eq_true h1
      have hfin : decide (x = y) = true := decide_eq_true (by cases x; cases y; simp_all)
      have HF := Aside0.mk hfin
      clear hfin
      clear h0
      clear h1
      go_enter Try.func39, Try.ntmps39
      go_wp2_with fail
      refine (eqIntS _ _ _ _ _ _ _ (A0.out.reads pG1.out) (A0.out.reads qG1.out)).mono ?_
      rintro e w1 ⟨rfl, hb0⟩
      have hb : Below _ _ w1 := hb0.below
      have A1 := Aside0.mk (A0.out.step hb)
      clear hb hb0 A0
      have z0 := A1.out.cell1; have z1 := A1.out.cell0
      go_wp2
      go_ret
      exact ⟨by rw [HF.out]; rfl, A1.out.below⟩
    · skip
      have d1 : decide (x.regs = y.regs) = false := decide_eq_false h1
      have hfin : decide (x = y) = false := decide_eq_false (fun e => h1 (by rw [e]))
      have HF := Aside0.mk hfin
      clear hfin
      clear h0
      clear h1
      go_enter Try.func39, Try.ntmps39
      go_wp2_with fail
      refine (eqIntS _ _ _ _ _ _ _ (A0.out.reads pG1.out) (A0.out.reads qG1.out)).mono ?_
      rintro e w1 ⟨rfl, hb0⟩
      have hb : Below _ _ w1 := hb0.below
      have A1 := Aside0.mk (A0.out.step hb)
      clear hb hb0 A0
      have z0 := A1.out.cell1; have z1 := A1.out.cell0
      go_wp2
      go_ret
      exact ⟨by rw [HF.out]; rfl, A1.out.below⟩
  · skip
    have b0 : (x.acc == y.acc) = false := beq_eq_false_iff_ne.mpr h0
    have d0 : (x.acc != y.acc) = true := bne_iff_ne.mpr h0
    have hfin : decide (x = y) = false := decide_eq_false (fun e => h0 (by rw [e]))
    have HF := Aside0.mk hfin
    clear hfin
    clear h0
    go_enter Try.func39, Try.ntmps39
    go_wp2
    go_ret
    exact ⟨by rw [HF.out]; rfl, by repeat (first | exact Below.refl _ _ | apply below_alloc | apply below_drew1 | apply pw_below_drewN | assumption)⟩
end Go.Proofs.Ytdgjbpefbkgnpaa
