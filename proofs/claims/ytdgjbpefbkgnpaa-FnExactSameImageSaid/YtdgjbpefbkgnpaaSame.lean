/- Contracts of the program's functions that tell whether two images, or two of their functions, are the same. No condition beyond what the arguments read as. -/
import Derived.Test.YtdgjbpefbkgnpaaKinds
import Derived.Test.YtdgjbpefbkgnpaaLaw
import Derived.Test.YtdgjbpefbkgnpaaNum
import Derived.WalkKit
import Derived.KernelRfl
import Derived.Deep.LoopGhost
import Derived.Deep.QuietTactic
import Derived.BigQuiet
import Derived.RowKit3
import Derived.Deep.RegionWith
import Derived.Deep.RegionHeld3
import Derived.WalkLawsBesides
import Derived.Test.YtdgjbpefbkgnpaaMem
import Derived.Test.YtdgjbpefbkgnpaaSlEq
namespace Go.Proofs.Ytdgjbpefbkgnpaa
open Go.RowKit Go.Proofs.YtdgjbpefbkgnpaaW.PrintWords Go.Proofs.YtdgjbpefbkgnpaaW.PrintMore Go.Proofs.Ytdgjbpefbkgnpaa.Law Go.Proofs.Ytdgjbpefbkgnpaa.Num
set_option linter.unusedVariables false
set_option linter.unusedSimpArgs false
attribute [local go_sem high] run_eqCap run_eqIns run_eqHandler run_eqConst
set_option maxHeartbeats 8000000 in
set_option maxRecDepth 100000 in
theorem l23Same (x y : Func) (cs ds : List Value) (w : World) (hk : kFuncI.K w x cs) (hk2 : kFuncI.K w y ds) :
    Calls Try.prog 86 #[.agg ⟨cs⟩, .agg ⟨ds⟩] w fun e w' => e = .returned (.bool (decide (x = y))) ∧ Below w.heap.size w w' := by
  obtain ⟨pA2, pc2, pA3, pc3, pA4, pc4, rfl, pl2, pg2, pl3, pg3, pl4, pg4⟩ := kFuncI_open hk
  obtain ⟨qA2, qc2, qA3, qc3, qA4, qc4, rfl, ql2, qg2, ql3, qg3, ql4, qg4⟩ := kFuncI_open hk2
  have hu := Try.underlying111
  clear hk hk2
  have M0 := Aside0.mk (((Mem.start w).allocAt rfl #[.int .i64 x.params, .int .i64 x.regs, .slice pA2 x.caps.length pc2, .slice pA3 x.code.length pc3, .slice pA4 x.handlers.length pc4] 111).allocAt (g := w.heap.size + 1) (by simp) #[.int .i64 y.params, .int .i64 y.regs, .slice qA2 y.caps.length qc2, .slice qA3 y.code.length qc3, .slice qA4 y.handlers.length qc4] 111)
  have PG2 := Aside0.mk (Kd.C_below pg2 M0.out.below); clear pg2 pl2
  have PG3 := Aside0.mk (Kd.C_below pg3 M0.out.below); clear pg3 pl3
  have PG4 := Aside0.mk (Kd.C_below pg4 M0.out.below); clear pg4 pl4
  have QG2 := Aside0.mk (Kd.C_below qg2 M0.out.below); clear qg2 ql2
  have QG3 := Aside0.mk (Kd.C_below qg3 M0.out.below); clear qg3 ql3
  have QG4 := Aside0.mk (Kd.C_below qg4 M0.out.below); clear qg4 ql4
  by_cases h0 : x.params = y.params
  rotate_left
  · skip
    have HF := Aside0.mk (show decide (x = y) = false from decide_eq_false (fun e => h0 (by rw [e])))
    have d0 : (x.params != y.params) = true := by simpa [bne_iff_ne] using (fun e => h0 (by exact e))
    clear h0
    go_enter Try.func86, Try.ntmps86
    go_wp2
    go_ret
    exact ⟨by rw [HF.out]; rfl, by repeat (first | exact Below.refl _ _ | apply below_alloc | apply below_drew1 | apply pw_below_drewN | assumption)⟩
  by_cases h1 : x.regs = y.regs
  rotate_left
  · skip
    have HF := Aside0.mk (show decide (x = y) = false from decide_eq_false (fun e => h1 (by rw [e])))
    have d0 : (x.params != y.params) = false := by simp [h0]
    have d1 : (x.regs != y.regs) = true := by simpa [bne_iff_ne] using (fun e => h1 (by exact e))
    clear h0 h1
    go_enter Try.func86, Try.ntmps86
    go_wp2
    go_ret
    exact ⟨by rw [HF.out]; rfl, by repeat (first | exact Below.refl _ _ | apply below_alloc | apply below_drew1 | apply pw_below_drewN | assumption)⟩
  by_cases h2 : x.caps.length = y.caps.length
  rotate_left
  · skip
    have HF := Aside0.mk (show decide (x = y) = false from decide_eq_false (fun e => h2 (by rw [e])))
    have d0 : (x.params != y.params) = false := by simp [h0]
    have d1 : (x.regs != y.regs) = false := by simp [h1]
    have d2 : ((x.caps.length : Int) != (y.caps.length : Int)) = true := by simpa [bne_iff_ne] using (fun e => h2 (by omega))
    clear h0 h1 h2
    go_enter Try.func86, Try.ntmps86
    go_wp2
    go_ret
    exact ⟨by rw [HF.out]; rfl, by repeat (first | exact Below.refl _ _ | apply below_alloc | apply below_drew1 | apply pw_below_drewN | assumption)⟩
  by_cases h3 : x.code.length = y.code.length
  rotate_left
  · skip
    have HF := Aside0.mk (show decide (x = y) = false from decide_eq_false (fun e => h3 (by rw [e])))
    have d0 : (x.params != y.params) = false := by simp [h0]
    have d1 : (x.regs != y.regs) = false := by simp [h1]
    have d2 : ((x.caps.length : Int) != (y.caps.length : Int)) = false := by simp [h2]
    have d3 : ((x.code.length : Int) != (y.code.length : Int)) = true := by simpa [bne_iff_ne] using (fun e => h3 (by omega))
    clear h0 h1 h2 h3
    go_enter Try.func86, Try.ntmps86
    go_wp2
    go_ret
    exact ⟨by rw [HF.out]; rfl, by repeat (first | exact Below.refl _ _ | apply below_alloc | apply below_drew1 | apply pw_below_drewN | assumption)⟩
  by_cases h4 : x.handlers.length = y.handlers.length
  rotate_left
  · skip
    have HF := Aside0.mk (show decide (x = y) = false from decide_eq_false (fun e => h4 (by rw [e])))
    have d0 : (x.params != y.params) = false := by simp [h0]
    have d1 : (x.regs != y.regs) = false := by simp [h1]
    have d2 : ((x.caps.length : Int) != (y.caps.length : Int)) = false := by simp [h2]
    have d3 : ((x.code.length : Int) != (y.code.length : Int)) = false := by simp [h3]
    have d4 : ((x.handlers.length : Int) != (y.handlers.length : Int)) = true := by simpa [bne_iff_ne] using (fun e => h4 (by omega))
    clear h0 h1 h2 h3 h4
    go_enter Try.func86, Try.ntmps86
    go_wp2
    go_ret
    exact ⟨by rw [HF.out]; rfl, by repeat (first | exact Below.refl _ _ | apply below_alloc | apply below_drew1 | apply pw_below_drewN | assumption)⟩
  have d0 : (x.params != y.params) = false := by simp [h0]
  have d1 : (x.regs != y.regs) = false := by simp [h1]
  have d2 : ((x.caps.length : Int) != (y.caps.length : Int)) = false := by simp [h2]
  have d3 : ((x.code.length : Int) != (y.code.length : Int)) = false := by simp [h3]
  have d4 : ((x.handlers.length : Int) != (y.handlers.length : Int)) = false := by simp [h4]
  have H0 := Aside0.mk h0; clear h0
  have H1 := Aside0.mk h1; clear h1
  have H2 := Aside0.mk h2; clear h2
  have H3 := Aside0.mk h3; clear h3
  have H4 := Aside0.mk h4; clear h4
  go_enter Try.func86, Try.ntmps86
  go_wp2
  have hL5 : x.caps.length ≤ 9223372036854775807 := PG2.out.2.1
  go_loopw [5] (fun v wr => ∃ j : Nat, v = .int .i64 j ∧ j ≤ x.caps.length ∧ Aside0 (∀ i : Nat, i < j → el zCap x.caps i = el zCap y.caps i) ∧ Drawn0 ((w.alloc (.cells #[.int .i64 x.params, .int .i64 x.regs, .slice pA2 x.caps.length pc2, .slice pA3 x.code.length pc3, .slice pA4 x.handlers.length pc4] 111)).alloc (.cells #[.int .i64 y.params, .int .i64 y.regs, .slice qA2 y.caps.length qc2, .slice qA3 y.code.length qc3, .slice qA4 y.handlers.length qc4] 111)) wr) (fun v _ => x.caps.length - (intOf v).toNat)
  case atStart => exact ⟨0, rfl, by omega, ⟨fun i hi => by omega⟩, (by first | exact ⟨⟨_, rfl⟩⟩ | exact Drawn0.refl _)⟩
  case round =>
    obtain ⟨j, rfl, hj, HE5, HW⟩ := hrel
    obtain ⟨⟨n, rfl⟩⟩ := HW
    by_cases hlt : j < x.caps.length
    · obtain ⟨a, rfl, _, x0, x1⟩ := Cap_at PG2.out j hlt
      obtain ⟨a2, rfl, _, y0, y1⟩ := Cap_at QG2.out j (by have := H2.out; omega)
      have i1 : (0 : Int) ≤ (j : Int) := by omega
      have i2 : (j : Int) < (x.caps.length : Int) := by omega
      have i3 : (j : Int) < (y.caps.length : Int) := by have := H2.out; omega
      by_cases he : el zCap x.caps j = el zCap y.caps j
      · have b2 : decide (el zCap x.caps j = el zCap y.caps j) = true := by simpa using he
        have HE2 := Aside0.mk he; clear he
        go_wp2
        go_quiet (fail)
        go_wp2
        go_roundw
        case rel => exact ⟨j + 1, by go_num, by omega, ⟨fun i hi => by rcases Nat.lt_succ_iff_lt_or_eq.1 hi with h | h; exact HE5.out i h; rw [h]; exact HE2.out⟩, (by first | exact ⟨⟨_, rfl⟩⟩ | exact Drawn0.step ⟨⟨_, rfl⟩⟩ _)⟩
        case measure => simp [intOf]; omega
      · have b2 : decide (el zCap x.caps j = el zCap y.caps j) = false := by simpa using he
        have HF := Aside0.mk (show decide (x = y) = false from decide_eq_false (fun e => he (by rw [e]))); clear he
        go_wp2
        go_quiet (fail)
        go_wp2
        go_ret
        exact ⟨by rw [HF.out]; rfl, by repeat (first | exact Below.refl _ _ | apply below_alloc | apply below_drew1 | apply pw_below_drewN | assumption)⟩
    · have i2 : ¬ (j : Int) < (x.caps.length : Int) := by omega
      have F5 := Aside0.mk (show x.caps = y.caps from el_ext zCap H2.out (fun i hi => HE5.out i (by omega))); clear HE5 hj hlt
      go_wp2
      have hL6 : x.code.length ≤ 9223372036854775807 := PG3.out.2.1
      go_loopw [6] (fun v wr => ∃ j : Nat, v = .int .i64 j ∧ j ≤ x.code.length ∧ Aside0 (∀ i : Nat, i < j → el zIns x.code i = el zIns y.code i) ∧ Drawn0 ((w.alloc (.cells #[.int .i64 x.params, .int .i64 x.regs, .slice pA2 x.caps.length pc2, .slice pA3 x.code.length pc3, .slice pA4 x.handlers.length pc4] 111)).alloc (.cells #[.int .i64 y.params, .int .i64 y.regs, .slice qA2 y.caps.length qc2, .slice qA3 y.code.length qc3, .slice qA4 y.handlers.length qc4] 111)) wr) (fun v _ => x.code.length - (intOf v).toNat)
      case atStart => exact ⟨0, rfl, by omega, ⟨fun i hi => by omega⟩, (by first | exact ⟨⟨_, rfl⟩⟩ | exact Drawn0.refl _)⟩
      case round =>
        obtain ⟨j, rfl, hj, HE6, HW⟩ := hrel
        obtain ⟨⟨n, rfl⟩⟩ := HW
        by_cases hlt : j < x.code.length
        · obtain ⟨a, rfl, _, x0, x1, x2⟩ := Ins_at PG3.out j hlt
          obtain ⟨a2, rfl, _, y0, y1, y2⟩ := Ins_at QG3.out j (by have := H3.out; omega)
          have i1 : (0 : Int) ≤ (j : Int) := by omega
          have i2 : (j : Int) < (x.code.length : Int) := by omega
          have i3 : (j : Int) < (y.code.length : Int) := by have := H3.out; omega
          by_cases he : el zIns x.code j = el zIns y.code j
          · have b2 : decide (el zIns x.code j = el zIns y.code j) = true := by simpa using he
            have HE2 := Aside0.mk he; clear he
            go_wp2
            go_quiet (fail)
            go_wp2
            go_roundw
            case rel => exact ⟨j + 1, by go_num, by omega, ⟨fun i hi => by rcases Nat.lt_succ_iff_lt_or_eq.1 hi with h | h; exact HE6.out i h; rw [h]; exact HE2.out⟩, (by first | exact ⟨⟨_, rfl⟩⟩ | exact Drawn0.step ⟨⟨_, rfl⟩⟩ _)⟩
            case measure => simp [intOf]; omega
          · have b2 : decide (el zIns x.code j = el zIns y.code j) = false := by simpa using he
            have HF := Aside0.mk (show decide (x = y) = false from decide_eq_false (fun e => he (by rw [e]))); clear he
            go_wp2
            go_quiet (fail)
            go_wp2
            go_ret
            exact ⟨by rw [HF.out]; rfl, by repeat (first | exact Below.refl _ _ | apply below_alloc | apply below_drew1 | apply pw_below_drewN | assumption)⟩
        · have i2 : ¬ (j : Int) < (x.code.length : Int) := by omega
          have F6 := Aside0.mk (show x.code = y.code from el_ext zIns H3.out (fun i hi => HE6.out i (by omega))); clear HE6 hj hlt
          go_wp2
          have hL7 : x.handlers.length ≤ 9223372036854775807 := PG4.out.2.1
          go_loopw [7] (fun v wr => ∃ j : Nat, v = .int .i64 j ∧ j ≤ x.handlers.length ∧ Aside0 (∀ i : Nat, i < j → el zHandler x.handlers i = el zHandler y.handlers i) ∧ Drawn0 ((w.alloc (.cells #[.int .i64 x.params, .int .i64 x.regs, .slice pA2 x.caps.length pc2, .slice pA3 x.code.length pc3, .slice pA4 x.handlers.length pc4] 111)).alloc (.cells #[.int .i64 y.params, .int .i64 y.regs, .slice qA2 y.caps.length qc2, .slice qA3 y.code.length qc3, .slice qA4 y.handlers.length qc4] 111)) wr) (fun v _ => x.handlers.length - (intOf v).toNat)
          case atStart => exact ⟨0, rfl, by omega, ⟨fun i hi => by omega⟩, (by first | exact ⟨⟨_, rfl⟩⟩ | exact Drawn0.refl _)⟩
          case round =>
            obtain ⟨j, rfl, hj, HE7, HW⟩ := hrel
            obtain ⟨⟨n, rfl⟩⟩ := HW
            by_cases hlt : j < x.handlers.length
            · obtain ⟨a, rfl, _, x0, x1, x2⟩ := Handler_at PG4.out j hlt
              obtain ⟨a2, rfl, _, y0, y1, y2⟩ := Handler_at QG4.out j (by have := H4.out; omega)
              have i1 : (0 : Int) ≤ (j : Int) := by omega
              have i2 : (j : Int) < (x.handlers.length : Int) := by omega
              have i3 : (j : Int) < (y.handlers.length : Int) := by have := H4.out; omega
              by_cases he : el zHandler x.handlers j = el zHandler y.handlers j
              · have b2 : decide (el zHandler x.handlers j = el zHandler y.handlers j) = true := by simpa using he
                have HE2 := Aside0.mk he; clear he
                go_wp2
                go_quiet (fail)
                go_wp2
                go_roundw
                case rel => exact ⟨j + 1, by go_num, by omega, ⟨fun i hi => by rcases Nat.lt_succ_iff_lt_or_eq.1 hi with h | h; exact HE7.out i h; rw [h]; exact HE2.out⟩, (by first | exact ⟨⟨_, rfl⟩⟩ | exact Drawn0.step ⟨⟨_, rfl⟩⟩ _)⟩
                case measure => simp [intOf]; omega
              · have b2 : decide (el zHandler x.handlers j = el zHandler y.handlers j) = false := by simpa using he
                have HF := Aside0.mk (show decide (x = y) = false from decide_eq_false (fun e => he (by rw [e]))); clear he
                go_wp2
                go_quiet (fail)
                go_wp2
                go_ret
                exact ⟨by rw [HF.out]; rfl, by repeat (first | exact Below.refl _ _ | apply below_alloc | apply below_drew1 | apply pw_below_drewN | assumption)⟩
            · have i2 : ¬ (j : Int) < (x.handlers.length : Int) := by omega
              have F7 := Aside0.mk (show x.handlers = y.handlers from el_ext zHandler H4.out (fun i hi => HE7.out i (by omega))); clear HE7 hj hlt
              go_wp2
              have HT := Aside0.mk (show decide (x = y) = true from decide_eq_true (by have e0 := H0.out; have e1 := H1.out; have e2 := F5.out; have e3 := F6.out; have e4 := F7.out; cases x; cases y; simp_all))
              go_ret
              exact ⟨by rw [HT.out]; rfl, by repeat (first | exact Below.refl _ _ | apply below_alloc | apply below_drew1 | apply pw_below_drewN | assumption)⟩
set_option maxHeartbeats 8000000 in
set_option maxRecDepth 100000 in
theorem specSameImage (x y : Image) (cs ds : List Value) (w : World) (hk : kImageI.K w x cs) (hk2 : kImageI.K w y ds) :
    Calls Try.prog 48 #[.agg ⟨cs⟩, .agg ⟨ds⟩] w fun e w' => e = .returned (.bool (decide (x = y))) ∧ Below w.heap.size w w' := by
  obtain ⟨pA0, pc0, pA1, pc1, rfl, pl0, pg0, pl1, pg1⟩ := kImageI_open hk
  obtain ⟨qA0, qc0, qA1, qc1, rfl, ql0, qg0, ql1, qg1⟩ := kImageI_open hk2
  have hu := Try.underlying74
  clear hk hk2
  have M0 := Aside0.mk (((Mem.start w).allocAt rfl #[.slice pA0 x.funcs.length pc0, .slice pA1 x.consts.length pc1] 74).allocAt (g := w.heap.size + 1) (by simp) #[.slice qA0 y.funcs.length qc0, .slice qA1 y.consts.length qc1] 74)
  have PG1 := Aside0.mk (Kd.C_below pg1 M0.out.below); have PG0 := Aside0.mk pg0; clear pg0 pg1 pl0 pl1
  have QG1 := Aside0.mk (Kd.C_below qg1 M0.out.below); have QG0 := Aside0.mk qg0; clear qg0 qg1 ql0 ql1
  by_cases h0 : x.funcs.length = y.funcs.length
  rotate_left
  · skip
    have HF := Aside0.mk (show decide (x = y) = false from decide_eq_false (fun e => h0 (by rw [e])))
    have d0 : ((x.funcs.length : Int) != (y.funcs.length : Int)) = true := by simpa [bne_iff_ne] using (fun e => h0 (by omega))
    clear h0
    go_enter Try.func48, Try.ntmps48
    go_wp2
    go_ret
    exact ⟨by rw [HF.out]; rfl, by repeat (first | exact Below.refl _ _ | apply below_alloc | apply below_drew1 | apply pw_below_drewN | assumption)⟩
  by_cases h1 : x.consts.length = y.consts.length
  rotate_left
  · skip
    have HF := Aside0.mk (show decide (x = y) = false from decide_eq_false (fun e => h1 (by rw [e])))
    have d0 : ((x.funcs.length : Int) != (y.funcs.length : Int)) = false := by simp [h0]
    have d1 : ((x.consts.length : Int) != (y.consts.length : Int)) = true := by simpa [bne_iff_ne] using (fun e => h1 (by omega))
    clear h0 h1
    go_enter Try.func48, Try.ntmps48
    go_wp2
    go_ret
    exact ⟨by rw [HF.out]; rfl, by repeat (first | exact Below.refl _ _ | apply below_alloc | apply below_drew1 | apply pw_below_drewN | assumption)⟩
  have d0 : ((x.funcs.length : Int) != (y.funcs.length : Int)) = false := by simp [h0]
  have d1 : ((x.consts.length : Int) != (y.consts.length : Int)) = false := by simp [h1]
  have H0 := Aside0.mk h0; clear h0
  have H1 := Aside0.mk h1; clear h1
  go_enter Try.func48, Try.ntmps48
  go_wp2
  have hL5 : x.consts.length ≤ 9223372036854775807 := PG1.out.2.1
  go_loopw [5] (fun v wr => ∃ j : Nat, v = .int .i64 j ∧ j ≤ x.consts.length ∧ Aside0 (∀ i : Nat, i < j → el zConst x.consts i = el zConst y.consts i) ∧ Drawn0 ((w.alloc (.cells #[.slice pA0 x.funcs.length pc0, .slice pA1 x.consts.length pc1] 74)).alloc (.cells #[.slice qA0 y.funcs.length qc0, .slice qA1 y.consts.length qc1] 74)) wr) (fun v _ => x.consts.length - (intOf v).toNat)
  case atStart => exact ⟨0, rfl, by omega, ⟨fun i hi => by omega⟩, (by first | exact ⟨⟨_, rfl⟩⟩ | exact Drawn0.refl _)⟩
  case round =>
    obtain ⟨j, rfl, hj, HE5, HW⟩ := hrel
    obtain ⟨⟨n, rfl⟩⟩ := HW
    by_cases hlt : j < x.consts.length
    · obtain ⟨a, rfl, _, x0, x1, x2⟩ := Const_at PG1.out j hlt
      obtain ⟨a2, rfl, _, y0, y1, y2⟩ := Const_at QG1.out j (by have := H1.out; omega)
      have i1 : (0 : Int) ≤ (j : Int) := by omega
      have i2 : (j : Int) < (x.consts.length : Int) := by omega
      have i3 : (j : Int) < (y.consts.length : Int) := by have := H1.out; omega
      by_cases he : el zConst x.consts j = el zConst y.consts j
      · have b2 : decide (el zConst x.consts j = el zConst y.consts j) = true := by simpa using he
        have HE2 := Aside0.mk he; clear he
        go_wp2
        go_quiet (fail)
        go_wp2
        go_roundw
        case rel => exact ⟨j + 1, by go_num, by omega, ⟨fun i hi => by rcases Nat.lt_succ_iff_lt_or_eq.1 hi with h | h; exact HE5.out i h; rw [h]; exact HE2.out⟩, (by first | exact ⟨⟨_, rfl⟩⟩ | exact Drawn0.step ⟨⟨_, rfl⟩⟩ _)⟩
        case measure => simp [intOf]; omega
      · have b2 : decide (el zConst x.consts j = el zConst y.consts j) = false := by simpa using he
        have HF := Aside0.mk (show decide (x = y) = false from decide_eq_false (fun e => he (by rw [e]))); clear he
        go_wp2
        go_quiet (fail)
        go_wp2
        go_ret
        exact ⟨by rw [HF.out]; rfl, by repeat (first | exact Below.refl _ _ | apply below_alloc | apply below_drew1 | apply pw_below_drewN | assumption)⟩
    · have i2 : ¬ (j : Int) < (x.consts.length : Int) := by omega
      have F5 := Aside0.mk (show x.consts = y.consts from el_ext zConst H1.out (fun i hi => HE5.out i (by omega))); clear HE5 hj hlt
      go_wp2
      have hL6 : x.funcs.length ≤ 9223372036854775807 := PG0.out.2.1
      have MS := Aside0.mk (M0.out.draw n)
      clear M0 PG1 QG1
      go_loopw [6] (fun v wr => ∃ j : Nat, v = .int .i64 j ∧ j ≤ x.funcs.length ∧ Aside0 (∀ i : Nat, i < j → el zFunc x.funcs i = el zFunc y.funcs i) ∧ Aside0 (Mem w wr [Hold.box (w.heap.size + 1) #[.slice qA0 y.funcs.length qc0, .slice qA1 y.consts.length qc1] 74, Hold.box w.heap.size #[.slice pA0 x.funcs.length pc0, .slice pA1 x.consts.length pc1] 74])) (fun v _ => x.funcs.length - (intOf v).toNat)
      case atStart => exact ⟨0, rfl, by omega, ⟨fun i hi => by omega⟩, MS⟩
      case round =>
        obtain ⟨j, rfl, hj, HE, MW⟩ := hrel
        clear MS
        by_cases hlt : j < x.funcs.length
        · obtain ⟨pa, pE2, pe2, pE3, pe3, pE4, pe4, rfl, pK, px0, px1, px2, px3, px4⟩ := FuncI_at (Kd.C_below PG0.out MW.out.below) j hlt
          have pK2 := Aside0.mk pK; clear pK
          obtain ⟨qa, qE2, qe2, qE3, qe3, qE4, qe4, rfl, qK, qx0, qx1, qx2, qx3, qx4⟩ := FuncI_at (Kd.C_below QG0.out MW.out.below) j (by have := H0.out; omega)
          have qK2 := Aside0.mk qK; clear qK
          have i1 : (0 : Int) ≤ (j : Int) := by omega
          have i2 : (j : Int) < (x.funcs.length : Int) := by omega
          have i3 : (j : Int) < (y.funcs.length : Int) := by have := H0.out; omega
          have zb0 := MW.out.box (.tail _ (.head _)); have zb1 := MW.out.box (.head _)
          by_cases he : el zFunc x.funcs j = el zFunc y.funcs j
          · have b2 : decide (el zFunc x.funcs j = el zFunc y.funcs j) = true := decide_eq_true he
            have HE2 := Aside0.mk he; clear he
            go_wp2
            have HS : Aside0 (∀ W : World, Below wr.heap.size wr W → W.cell? (pa.add (j * 5)) = some (.int .i64 (el zFunc x.funcs j).params) ∧ W.cell? ⟨(pa.add (j * 5)).block, (pa.add (j * 5)).off + 1, none⟩ = some (.int .i64 (el zFunc x.funcs j).regs) ∧ W.cell? ⟨(pa.add (j * 5)).block, (pa.add (j * 5)).off + 2, none⟩ = some (.slice pE2 (el zFunc x.funcs j).caps.length pe2) ∧ W.cell? ⟨(pa.add (j * 5)).block, (pa.add (j * 5)).off + 3, none⟩ = some (.slice pE3 (el zFunc x.funcs j).code.length pe3) ∧ W.cell? ⟨(pa.add (j * 5)).block, (pa.add (j * 5)).off + 4, none⟩ = some (.slice pE4 (el zFunc x.funcs j).handlers.length pe4) ∧ W.cell? (qa.add (j * 5)) = some (.int .i64 (el zFunc y.funcs j).params) ∧ W.cell? ⟨(qa.add (j * 5)).block, (qa.add (j * 5)).off + 1, none⟩ = some (.int .i64 (el zFunc y.funcs j).regs) ∧ W.cell? ⟨(qa.add (j * 5)).block, (qa.add (j * 5)).off + 2, none⟩ = some (.slice qE2 (el zFunc y.funcs j).caps.length qe2) ∧ W.cell? ⟨(qa.add (j * 5)).block, (qa.add (j * 5)).off + 3, none⟩ = some (.slice qE3 (el zFunc y.funcs j).code.length qe3) ∧ W.cell? ⟨(qa.add (j * 5)).block, (qa.add (j * 5)).off + 4, none⟩ = some (.slice qE4 (el zFunc y.funcs j).handlers.length qe4) ∧ (∀ o, W.cell? ⟨w.heap.size, o, none⟩ = (#[.slice (some pa) x.funcs.length pc0, .slice pA1 x.consts.length pc1] : Array Value)[o]?) ∧ (∀ o, W.cell? ⟨w.heap.size + 1, o, none⟩ = (#[.slice (some qa) y.funcs.length qc0, .slice qA1 y.consts.length qc1] : Array Value)[o]?)) := ⟨fun W hB => ⟨pw_cell_below hB px0, pw_cell_below hB px1, pw_cell_below hB px2, pw_cell_below hB px3, pw_cell_below hB px4, pw_cell_below hB qx0, pw_cell_below hB qx1, pw_cell_below hB qx2, pw_cell_below hB qx3, pw_cell_below hB qx4, (MW.out.step hB).box (.tail _ (.head _)), (MW.out.step hB).box (.head _)⟩⟩
            clear zb0 zb1
            go_region_held3 (fun W => W.cell? (pa.add (j * 5)) = some (.int .i64 (el zFunc x.funcs j).params) ∧ W.cell? ⟨(pa.add (j * 5)).block, (pa.add (j * 5)).off + 1, none⟩ = some (.int .i64 (el zFunc x.funcs j).regs) ∧ W.cell? ⟨(pa.add (j * 5)).block, (pa.add (j * 5)).off + 2, none⟩ = some (.slice pE2 (el zFunc x.funcs j).caps.length pe2) ∧ W.cell? ⟨(pa.add (j * 5)).block, (pa.add (j * 5)).off + 3, none⟩ = some (.slice pE3 (el zFunc x.funcs j).code.length pe3) ∧ W.cell? ⟨(pa.add (j * 5)).block, (pa.add (j * 5)).off + 4, none⟩ = some (.slice pE4 (el zFunc x.funcs j).handlers.length pe4) ∧ W.cell? (qa.add (j * 5)) = some (.int .i64 (el zFunc y.funcs j).params) ∧ W.cell? ⟨(qa.add (j * 5)).block, (qa.add (j * 5)).off + 1, none⟩ = some (.int .i64 (el zFunc y.funcs j).regs) ∧ W.cell? ⟨(qa.add (j * 5)).block, (qa.add (j * 5)).off + 2, none⟩ = some (.slice qE2 (el zFunc y.funcs j).caps.length qe2) ∧ W.cell? ⟨(qa.add (j * 5)).block, (qa.add (j * 5)).off + 3, none⟩ = some (.slice qE3 (el zFunc y.funcs j).code.length qe3) ∧ W.cell? ⟨(qa.add (j * 5)).block, (qa.add (j * 5)).off + 4, none⟩ = some (.slice qE4 (el zFunc y.funcs j).handlers.length qe4) ∧ (∀ o, W.cell? ⟨w.heap.size, o, none⟩ = (#[.slice (some pa) x.funcs.length pc0, .slice pA1 x.consts.length pc1] : Array Value)[o]?) ∧ (∀ o, W.cell? ⟨w.heap.size + 1, o, none⟩ = (#[.slice (some qa) y.funcs.length qc0, .slice qA1 y.consts.length qc1] : Array Value)[o]?)) (first | exact HS.out _ (below_step (below_drew1 (Below.refl _ _)) hb) | exact HS.out _ (below_drew1 (Below.refl _ _))) (first | (go_at_call 86; refine (l23Same (el zFunc x.funcs j) (el zFunc y.funcs j) _ _ _ ?s1 ?s2).mono ?_; (case s1 => exact Kd.K_drew0 pK2.out); (case s2 => exact Kd.K_drew0 qK2.out); rintro e w1 ⟨rfl, hb⟩))
            go_wp2
            go_roundw
            case rel => exact ⟨j + 1, by go_num, by omega, ⟨fun i hi => by rcases Nat.lt_succ_iff_lt_or_eq.1 hi with h | h; exact HE.out i h; rw [h]; exact HE2.out⟩, ⟨MW.out.drew.step hb⟩⟩
            case measure => simp [intOf]; omega
          · have b2 : decide (el zFunc x.funcs j = el zFunc y.funcs j) = false := decide_eq_false he
            have HF := Aside0.mk (show decide (x = y) = false from decide_eq_false (fun e => he (by rw [e]))); clear he
            go_wp2
            have HS : Aside0 (∀ W : World, Below wr.heap.size wr W → W.cell? (pa.add (j * 5)) = some (.int .i64 (el zFunc x.funcs j).params) ∧ W.cell? ⟨(pa.add (j * 5)).block, (pa.add (j * 5)).off + 1, none⟩ = some (.int .i64 (el zFunc x.funcs j).regs) ∧ W.cell? ⟨(pa.add (j * 5)).block, (pa.add (j * 5)).off + 2, none⟩ = some (.slice pE2 (el zFunc x.funcs j).caps.length pe2) ∧ W.cell? ⟨(pa.add (j * 5)).block, (pa.add (j * 5)).off + 3, none⟩ = some (.slice pE3 (el zFunc x.funcs j).code.length pe3) ∧ W.cell? ⟨(pa.add (j * 5)).block, (pa.add (j * 5)).off + 4, none⟩ = some (.slice pE4 (el zFunc x.funcs j).handlers.length pe4) ∧ W.cell? (qa.add (j * 5)) = some (.int .i64 (el zFunc y.funcs j).params) ∧ W.cell? ⟨(qa.add (j * 5)).block, (qa.add (j * 5)).off + 1, none⟩ = some (.int .i64 (el zFunc y.funcs j).regs) ∧ W.cell? ⟨(qa.add (j * 5)).block, (qa.add (j * 5)).off + 2, none⟩ = some (.slice qE2 (el zFunc y.funcs j).caps.length qe2) ∧ W.cell? ⟨(qa.add (j * 5)).block, (qa.add (j * 5)).off + 3, none⟩ = some (.slice qE3 (el zFunc y.funcs j).code.length qe3) ∧ W.cell? ⟨(qa.add (j * 5)).block, (qa.add (j * 5)).off + 4, none⟩ = some (.slice qE4 (el zFunc y.funcs j).handlers.length qe4) ∧ (∀ o, W.cell? ⟨w.heap.size, o, none⟩ = (#[.slice (some pa) x.funcs.length pc0, .slice pA1 x.consts.length pc1] : Array Value)[o]?) ∧ (∀ o, W.cell? ⟨w.heap.size + 1, o, none⟩ = (#[.slice (some qa) y.funcs.length qc0, .slice qA1 y.consts.length qc1] : Array Value)[o]?)) := ⟨fun W hB => ⟨pw_cell_below hB px0, pw_cell_below hB px1, pw_cell_below hB px2, pw_cell_below hB px3, pw_cell_below hB px4, pw_cell_below hB qx0, pw_cell_below hB qx1, pw_cell_below hB qx2, pw_cell_below hB qx3, pw_cell_below hB qx4, (MW.out.step hB).box (.tail _ (.head _)), (MW.out.step hB).box (.head _)⟩⟩
            clear zb0 zb1
            go_region_held3 (fun W => W.cell? (pa.add (j * 5)) = some (.int .i64 (el zFunc x.funcs j).params) ∧ W.cell? ⟨(pa.add (j * 5)).block, (pa.add (j * 5)).off + 1, none⟩ = some (.int .i64 (el zFunc x.funcs j).regs) ∧ W.cell? ⟨(pa.add (j * 5)).block, (pa.add (j * 5)).off + 2, none⟩ = some (.slice pE2 (el zFunc x.funcs j).caps.length pe2) ∧ W.cell? ⟨(pa.add (j * 5)).block, (pa.add (j * 5)).off + 3, none⟩ = some (.slice pE3 (el zFunc x.funcs j).code.length pe3) ∧ W.cell? ⟨(pa.add (j * 5)).block, (pa.add (j * 5)).off + 4, none⟩ = some (.slice pE4 (el zFunc x.funcs j).handlers.length pe4) ∧ W.cell? (qa.add (j * 5)) = some (.int .i64 (el zFunc y.funcs j).params) ∧ W.cell? ⟨(qa.add (j * 5)).block, (qa.add (j * 5)).off + 1, none⟩ = some (.int .i64 (el zFunc y.funcs j).regs) ∧ W.cell? ⟨(qa.add (j * 5)).block, (qa.add (j * 5)).off + 2, none⟩ = some (.slice qE2 (el zFunc y.funcs j).caps.length qe2) ∧ W.cell? ⟨(qa.add (j * 5)).block, (qa.add (j * 5)).off + 3, none⟩ = some (.slice qE3 (el zFunc y.funcs j).code.length qe3) ∧ W.cell? ⟨(qa.add (j * 5)).block, (qa.add (j * 5)).off + 4, none⟩ = some (.slice qE4 (el zFunc y.funcs j).handlers.length qe4) ∧ (∀ o, W.cell? ⟨w.heap.size, o, none⟩ = (#[.slice (some pa) x.funcs.length pc0, .slice pA1 x.consts.length pc1] : Array Value)[o]?) ∧ (∀ o, W.cell? ⟨w.heap.size + 1, o, none⟩ = (#[.slice (some qa) y.funcs.length qc0, .slice qA1 y.consts.length qc1] : Array Value)[o]?)) (first | exact HS.out _ (below_step (below_drew1 (Below.refl _ _)) hb) | exact HS.out _ (below_drew1 (Below.refl _ _))) (first | (go_at_call 86; refine (l23Same (el zFunc x.funcs j) (el zFunc y.funcs j) _ _ _ ?s1 ?s2).mono ?_; (case s1 => exact Kd.K_drew0 pK2.out); (case s2 => exact Kd.K_drew0 qK2.out); rintro e w1 ⟨rfl, hb⟩))
            go_wp2
            go_ret
            exact ⟨by rw [HF.out]; rfl, (MW.out.drew.step hb).below⟩
        · have i2 : ¬ (j : Int) < (x.funcs.length : Int) := by omega
          have zb0 := MW.out.box (.tail _ (.head _)); have zb1 := MW.out.box (.head _)
          have F6 := Aside0.mk (show x.funcs = y.funcs from el_ext zFunc H0.out (fun i hi => HE.out i (by omega)))
          have HT := Aside0.mk (show decide (x = y) = true from decide_eq_true (by have e3 := F5.out; have e4 := F6.out; cases x; cases y; simp_all))
          go_wp2
          go_ret
          exact ⟨by rw [HT.out]; rfl, MW.out.below⟩
set_option maxHeartbeats 8000000 in
set_option maxRecDepth 100000 in
theorem implSame1 (x y : Func) (cs ds : List Value) (w : World) (hk : kFuncI.K w x cs) (hk2 : kFuncI.K w y ds) :
    Calls Try.prog 91 #[.agg ⟨cs⟩, .agg ⟨ds⟩] w fun e w' => e = .returned (.bool (decide (x = y))) ∧ Below w.heap.size w w' := by
  obtain ⟨pA2, pc2, pA3, pc3, pA4, pc4, rfl, pl2, pg2, pl3, pg3, pl4, pg4⟩ := kFuncI_open hk
  obtain ⟨qA2, qc2, qA3, qc3, qA4, qc4, rfl, ql2, qg2, ql3, qg3, ql4, qg4⟩ := kFuncI_open hk2
  have hu := Try.underlying111
  clear hk hk2
  have M0 := Aside0.mk (((Mem.start w).allocAt rfl #[.int .i64 x.params, .int .i64 x.regs, .slice pA2 x.caps.length pc2, .slice pA3 x.code.length pc3, .slice pA4 x.handlers.length pc4] 111).allocAt (g := w.heap.size + 1) (by simp) #[.int .i64 y.params, .int .i64 y.regs, .slice qA2 y.caps.length qc2, .slice qA3 y.code.length qc3, .slice qA4 y.handlers.length qc4] 111)
  have PG2 := Aside0.mk (Kd.C_below pg2 M0.out.below); clear pg2 pl2
  have PG3 := Aside0.mk (Kd.C_below pg3 M0.out.below); clear pg3 pl3
  have PG4 := Aside0.mk (Kd.C_below pg4 M0.out.below); clear pg4 pl4
  have QG2 := Aside0.mk (Kd.C_below qg2 M0.out.below); clear qg2 ql2
  have QG3 := Aside0.mk (Kd.C_below qg3 M0.out.below); clear qg3 ql3
  have QG4 := Aside0.mk (Kd.C_below qg4 M0.out.below); clear qg4 ql4
  by_cases h0 : x.params = y.params
  rotate_left
  · skip
    have HF := Aside0.mk (show decide (x = y) = false from decide_eq_false (fun e => h0 (by rw [e])))
    have d0 : (x.params == y.params) = false := by simp [h0]
    clear h0
    go_enter Try.func91, Try.ntmps91
    go_wp2
    go_ret
    exact ⟨by rw [HF.out]; rfl, by repeat (first | exact Below.refl _ _ | apply below_alloc | apply below_drew1 | apply pw_below_drewN | assumption)⟩
  by_cases h1 : x.regs = y.regs
  rotate_left
  · skip
    have HF := Aside0.mk (show decide (x = y) = false from decide_eq_false (fun e => h1 (by rw [e])))
    have d0 : (x.params == y.params) = true := by simp [h0]
    have d1 : (x.regs == y.regs) = false := by simp [h1]
    have G0 := Aside0.mk h0
    clear h0 h1
    go_enter Try.func91, Try.ntmps91
    go_wp2
    go_ret
    exact ⟨by rw [HF.out]; rfl, by repeat (first | exact Below.refl _ _ | apply below_alloc | apply below_drew1 | apply pw_below_drewN | assumption)⟩
  by_cases h2 : x.caps = y.caps
  rotate_left
  · skip
    have HF := Aside0.mk (show decide (x = y) = false from decide_eq_false (fun e => h2 (by rw [e])))
    have d0 : (x.params == y.params) = true := by simp [h0]
    have d1 : (x.regs == y.regs) = true := by simp [h1]
    have d2 : decide (x.caps = y.caps) = false := decide_eq_false h2
    have G0 := Aside0.mk h0
    have G1 := Aside0.mk h1
    clear h0 h1 h2
    go_enter Try.func91, Try.ntmps91
    go_wp2_with fail
    refine (sliceEqCap _ _ _ _ x.caps y.caps _ PG2.out QG2.out).mono ?_
    rintro e w0 ⟨rfl, hb⟩
    have BQ := Aside0.mk (show Below (((w.alloc (.cells #[.int .i64 x.params, .int .i64 x.regs, .slice pA2 x.caps.length pc2, .slice pA3 x.code.length pc3, .slice pA4 x.handlers.length pc4] 111)).alloc (.cells #[.int .i64 y.params, .int .i64 y.regs, .slice qA2 y.caps.length qc2, .slice qA3 y.code.length qc3, .slice qA4 y.handlers.length qc4] 111))).heap.size ((w.alloc (.cells #[.int .i64 x.params, .int .i64 x.regs, .slice pA2 x.caps.length pc2, .slice pA3 x.code.length pc3, .slice pA4 x.handlers.length pc4] 111)).alloc (.cells #[.int .i64 y.params, .int .i64 y.regs, .slice qA2 y.caps.length qc2, .slice qA3 y.code.length qc3, .slice qA4 y.handlers.length qc4] 111)) w0 from (by first | exact hb.below | exact hb))
    have z0 := (M0.out.step BQ.out).box (.tail _ (.head _)); have z1 := (M0.out.step BQ.out).box (.head _)
    clear hb
    go_wp2
    go_ret
    exact ⟨by rw [HF.out]; rfl, (M0.out.step BQ.out).below⟩
  by_cases h3 : x.code = y.code
  rotate_left
  · skip
    have HF := Aside0.mk (show decide (x = y) = false from decide_eq_false (fun e => h3 (by rw [e])))
    have d0 : (x.params == y.params) = true := by simp [h0]
    have d1 : (x.regs == y.regs) = true := by simp [h1]
    have d2 : decide (x.caps = y.caps) = true := decide_eq_true h2
    have d3 : decide (x.code = y.code) = false := decide_eq_false h3
    have G0 := Aside0.mk h0
    have G1 := Aside0.mk h1
    have G2 := Aside0.mk h2
    clear h0 h1 h2 h3
    go_enter Try.func91, Try.ntmps91
    go_wp2_with fail
    refine (sliceEqCap _ _ _ _ x.caps y.caps _ PG2.out QG2.out).mono ?_
    rintro e w0 ⟨rfl, hb⟩
    have BQ := Aside0.mk (show Below (((w.alloc (.cells #[.int .i64 x.params, .int .i64 x.regs, .slice pA2 x.caps.length pc2, .slice pA3 x.code.length pc3, .slice pA4 x.handlers.length pc4] 111)).alloc (.cells #[.int .i64 y.params, .int .i64 y.regs, .slice qA2 y.caps.length qc2, .slice qA3 y.code.length qc3, .slice qA4 y.handlers.length qc4] 111))).heap.size ((w.alloc (.cells #[.int .i64 x.params, .int .i64 x.regs, .slice pA2 x.caps.length pc2, .slice pA3 x.code.length pc3, .slice pA4 x.handlers.length pc4] 111)).alloc (.cells #[.int .i64 y.params, .int .i64 y.regs, .slice qA2 y.caps.length qc2, .slice qA3 y.code.length qc3, .slice qA4 y.handlers.length qc4] 111)) w0 from (by first | exact hb.below | exact hb))
    have z0 := (M0.out.step BQ.out).box (.tail _ (.head _)); have z1 := (M0.out.step BQ.out).box (.head _)
    clear hb
    go_wp2_with fail
    refine (sliceEqIns _ _ _ _ x.code y.code _ (Kd.C_below PG3.out BQ.out) (Kd.C_below QG3.out BQ.out)).mono ?_
    rintro e w1 ⟨rfl, hb⟩
    have BQ2 := Aside0.mk (below_step BQ.out (by first | exact hb.below | exact hb)); clear BQ; have BQ := BQ2; clear BQ2
    clear z0 z1; have z0 := (M0.out.step BQ.out).box (.tail _ (.head _)); have z1 := (M0.out.step BQ.out).box (.head _)
    clear hb
    go_wp2
    go_ret
    exact ⟨by rw [HF.out]; rfl, (M0.out.step BQ.out).below⟩
  by_cases h4 : x.handlers = y.handlers
  rotate_left
  · skip
    have HF := Aside0.mk (show decide (x = y) = false from decide_eq_false (fun e => h4 (by rw [e])))
    have d0 : (x.params == y.params) = true := by simp [h0]
    have d1 : (x.regs == y.regs) = true := by simp [h1]
    have d2 : decide (x.caps = y.caps) = true := decide_eq_true h2
    have d3 : decide (x.code = y.code) = true := decide_eq_true h3
    have d4 : decide (x.handlers = y.handlers) = false := decide_eq_false h4
    have G0 := Aside0.mk h0
    have G1 := Aside0.mk h1
    have G2 := Aside0.mk h2
    have G3 := Aside0.mk h3
    clear h0 h1 h2 h3 h4
    go_enter Try.func91, Try.ntmps91
    go_wp2_with fail
    refine (sliceEqCap _ _ _ _ x.caps y.caps _ PG2.out QG2.out).mono ?_
    rintro e w0 ⟨rfl, hb⟩
    have BQ := Aside0.mk (show Below (((w.alloc (.cells #[.int .i64 x.params, .int .i64 x.regs, .slice pA2 x.caps.length pc2, .slice pA3 x.code.length pc3, .slice pA4 x.handlers.length pc4] 111)).alloc (.cells #[.int .i64 y.params, .int .i64 y.regs, .slice qA2 y.caps.length qc2, .slice qA3 y.code.length qc3, .slice qA4 y.handlers.length qc4] 111))).heap.size ((w.alloc (.cells #[.int .i64 x.params, .int .i64 x.regs, .slice pA2 x.caps.length pc2, .slice pA3 x.code.length pc3, .slice pA4 x.handlers.length pc4] 111)).alloc (.cells #[.int .i64 y.params, .int .i64 y.regs, .slice qA2 y.caps.length qc2, .slice qA3 y.code.length qc3, .slice qA4 y.handlers.length qc4] 111)) w0 from (by first | exact hb.below | exact hb))
    have z0 := (M0.out.step BQ.out).box (.tail _ (.head _)); have z1 := (M0.out.step BQ.out).box (.head _)
    clear hb
    go_wp2_with fail
    refine (sliceEqIns _ _ _ _ x.code y.code _ (Kd.C_below PG3.out BQ.out) (Kd.C_below QG3.out BQ.out)).mono ?_
    rintro e w1 ⟨rfl, hb⟩
    have BQ2 := Aside0.mk (below_step BQ.out (by first | exact hb.below | exact hb)); clear BQ; have BQ := BQ2; clear BQ2
    clear z0 z1; have z0 := (M0.out.step BQ.out).box (.tail _ (.head _)); have z1 := (M0.out.step BQ.out).box (.head _)
    clear hb
    go_wp2_with fail
    refine (sliceEqHandler _ _ _ _ x.handlers y.handlers _ (Kd.C_below PG4.out BQ.out) (Kd.C_below QG4.out BQ.out)).mono ?_
    rintro e w2 ⟨rfl, hb⟩
    have BQ2 := Aside0.mk (below_step BQ.out (by first | exact hb.below | exact hb)); clear BQ; have BQ := BQ2; clear BQ2
    clear z0 z1; have z0 := (M0.out.step BQ.out).box (.tail _ (.head _)); have z1 := (M0.out.step BQ.out).box (.head _)
    clear hb
    go_wp2
    go_ret
    exact ⟨by rw [HF.out]; rfl, (M0.out.step BQ.out).below⟩
  have HT := Aside0.mk (show decide (x = y) = true from decide_eq_true (by cases x; cases y; simp_all))
  have d0 : (x.params == y.params) = true := by simp [h0]
  have d1 : (x.regs == y.regs) = true := by simp [h1]
  have d2 : decide (x.caps = y.caps) = true := decide_eq_true h2
  have d3 : decide (x.code = y.code) = true := decide_eq_true h3
  have d4 : decide (x.handlers = y.handlers) = true := decide_eq_true h4
  have G0 := Aside0.mk h0
  have G1 := Aside0.mk h1
  have G2 := Aside0.mk h2
  have G3 := Aside0.mk h3
  have G4 := Aside0.mk h4
  clear h0 h1 h2 h3 h4
  go_enter Try.func91, Try.ntmps91
  go_wp2_with fail
  refine (sliceEqCap _ _ _ _ x.caps y.caps _ PG2.out QG2.out).mono ?_
  rintro e w0 ⟨rfl, hb⟩
  have BQ := Aside0.mk (show Below (((w.alloc (.cells #[.int .i64 x.params, .int .i64 x.regs, .slice pA2 x.caps.length pc2, .slice pA3 x.code.length pc3, .slice pA4 x.handlers.length pc4] 111)).alloc (.cells #[.int .i64 y.params, .int .i64 y.regs, .slice qA2 y.caps.length qc2, .slice qA3 y.code.length qc3, .slice qA4 y.handlers.length qc4] 111))).heap.size ((w.alloc (.cells #[.int .i64 x.params, .int .i64 x.regs, .slice pA2 x.caps.length pc2, .slice pA3 x.code.length pc3, .slice pA4 x.handlers.length pc4] 111)).alloc (.cells #[.int .i64 y.params, .int .i64 y.regs, .slice qA2 y.caps.length qc2, .slice qA3 y.code.length qc3, .slice qA4 y.handlers.length qc4] 111)) w0 from (by first | exact hb.below | exact hb))
  have z0 := (M0.out.step BQ.out).box (.tail _ (.head _)); have z1 := (M0.out.step BQ.out).box (.head _)
  clear hb
  go_wp2_with fail
  refine (sliceEqIns _ _ _ _ x.code y.code _ (Kd.C_below PG3.out BQ.out) (Kd.C_below QG3.out BQ.out)).mono ?_
  rintro e w1 ⟨rfl, hb⟩
  have BQ2 := Aside0.mk (below_step BQ.out (by first | exact hb.below | exact hb)); clear BQ; have BQ := BQ2; clear BQ2
  clear z0 z1; have z0 := (M0.out.step BQ.out).box (.tail _ (.head _)); have z1 := (M0.out.step BQ.out).box (.head _)
  clear hb
  go_wp2_with fail
  refine (sliceEqHandler _ _ _ _ x.handlers y.handlers _ (Kd.C_below PG4.out BQ.out) (Kd.C_below QG4.out BQ.out)).mono ?_
  rintro e w2 ⟨rfl, hb⟩
  have BQ2 := Aside0.mk (below_step BQ.out (by first | exact hb.below | exact hb)); clear BQ; have BQ := BQ2; clear BQ2
  clear z0 z1; have z0 := (M0.out.step BQ.out).box (.tail _ (.head _)); have z1 := (M0.out.step BQ.out).box (.head _)
  clear hb
  go_wp2
  go_ret
  exact ⟨by rw [HT.out]; rfl, (M0.out.step BQ.out).below⟩
set_option maxHeartbeats 8000000 in
set_option maxRecDepth 100000 in
theorem equalFunc (A B : Option Addr) (c d : Nat) (l m : List Func) (w : World) (hr : kFuncI.C w A l.length l) (hr2 : kFuncI.C w B m.length m) :
    Calls Try.prog 90 #[.slice A l.length c, .slice B m.length d, .func (.func 91) #[] #[]] w fun e w' => e = .returned (.bool (decide (l = m))) ∧ Below w.heap.size w w' := by
  have hL : l.length ≤ 9223372036854775807 := hr.2.1
  have hu := Try.underlying111
  by_cases hlen : l.length = m.length
  · have b1 : ((l.length : Int) != (m.length : Int)) = false := by simp [hlen]
    have HR := Aside0.mk hr; have HR2 := Aside0.mk hr2; have HL := Aside0.mk hlen
    clear hr hr2 hlen
    go_enter Try.func90, Try.ntmps90
    go_wp2
    go_loopw [17] (fun v wr => ∃ j : Nat, v = .int .i64 j ∧ j ≤ l.length ∧ Aside0 (∀ i : Nat, i < j → el zFunc l i = el zFunc m i) ∧ Aside0 (Below w.heap.size w wr)) (fun v _ => l.length - (intOf v).toNat)
    case atStart => exact ⟨0, rfl, by omega, ⟨fun i hi => by omega⟩, ⟨Below.refl _ _⟩⟩
    case round =>
      obtain ⟨j, rfl, hj, HE, HW⟩ := hrel
      by_cases hlt : j < l.length
      · obtain ⟨pa, pE2, pe2, pE3, pe3, pE4, pe4, rfl, pK, px0, px1, px2, px3, px4⟩ := FuncI_at (Kd.C_below HR.out HW.out) j hlt
        have pK2 := Aside0.mk pK; clear pK
        obtain ⟨qa, qE2, qe2, qE3, qe3, qE4, qe4, rfl, qK, qx0, qx1, qx2, qx3, qx4⟩ := FuncI_at (Kd.C_below HR2.out HW.out) j (by have := HL.out; omega)
        have qK2 := Aside0.mk qK; clear qK
        have i1 : (0 : Int) ≤ (j : Int) := by omega
        have i2 : (j : Int) < (l.length : Int) := by omega
        have i3 : (j : Int) < (m.length : Int) := by have := HL.out; omega
        by_cases he : el zFunc l j = el zFunc m j
        · have b2 : decide (el zFunc l j = el zFunc m j) = true := decide_eq_true he
          have HE2 := Aside0.mk he; clear he
          have BA := Aside0.mk (below_alloc (below_alloc (Below.refl wr.heap.size wr) (.cells #[.int .i64 (el zFunc l j).params, .int .i64 (el zFunc l j).regs, .slice pE2 (el zFunc l j).caps.length pe2, .slice pE3 (el zFunc l j).code.length pe3, .slice pE4 (el zFunc l j).handlers.length pe4] 111)) (.cells #[.int .i64 (el zFunc m j).params, .int .i64 (el zFunc m j).regs, .slice qE2 (el zFunc m j).caps.length qe2, .slice qE3 (el zFunc m j).code.length qe3, .slice qE4 (el zFunc m j).handlers.length qe4] 111))
          have BA1 := below_alloc (Below.refl wr.heap.size wr) (.cells #[.int .i64 (el zFunc l j).params, .int .i64 (el zFunc l j).regs, .slice pE2 (el zFunc l j).caps.length pe2, .slice pE3 (el zFunc l j).code.length pe3, .slice pE4 (el zFunc l j).handlers.length pe4] 111)
          have qy0 := pw_cell_below BA1 qx0; have qy1 := pw_cell_below BA1 qx1; have qy2 := pw_cell_below BA1 qx2; have qy3 := pw_cell_below BA1 qx3; have qy4 := pw_cell_below BA1 qx4
          clear BA1
          go_wp2_with fail
          refine (implSame1 (el zFunc l j) (el zFunc m j) _ _ _ (kFuncI.K_below BA.out pK2.out) (kFuncI.K_below BA.out qK2.out)).mono ?_
          rintro e w1 ⟨rfl, hb⟩
          have HW2 := Aside0.mk (below_step (below_step HW.out BA.out) hb); clear hb HW
          go_wp2
          go_roundw
          case rel => exact ⟨j + 1, by go_num, by omega, ⟨fun i hi => by rcases Nat.lt_succ_iff_lt_or_eq.1 hi with h | h; exact HE.out i h; rw [h]; exact HE2.out⟩, HW2⟩
          case measure => simp [intOf]; omega
        · have b2 : decide (el zFunc l j = el zFunc m j) = false := decide_eq_false he
          have HE2 := Aside0.mk he; clear he
          have BA := Aside0.mk (below_alloc (below_alloc (Below.refl wr.heap.size wr) (.cells #[.int .i64 (el zFunc l j).params, .int .i64 (el zFunc l j).regs, .slice pE2 (el zFunc l j).caps.length pe2, .slice pE3 (el zFunc l j).code.length pe3, .slice pE4 (el zFunc l j).handlers.length pe4] 111)) (.cells #[.int .i64 (el zFunc m j).params, .int .i64 (el zFunc m j).regs, .slice qE2 (el zFunc m j).caps.length qe2, .slice qE3 (el zFunc m j).code.length qe3, .slice qE4 (el zFunc m j).handlers.length qe4] 111))
          have BA1 := below_alloc (Below.refl wr.heap.size wr) (.cells #[.int .i64 (el zFunc l j).params, .int .i64 (el zFunc l j).regs, .slice pE2 (el zFunc l j).caps.length pe2, .slice pE3 (el zFunc l j).code.length pe3, .slice pE4 (el zFunc l j).handlers.length pe4] 111)
          have qy0 := pw_cell_below BA1 qx0; have qy1 := pw_cell_below BA1 qx1; have qy2 := pw_cell_below BA1 qx2; have qy3 := pw_cell_below BA1 qx3; have qy4 := pw_cell_below BA1 qx4
          clear BA1
          go_wp2_with fail
          refine (implSame1 (el zFunc l j) (el zFunc m j) _ _ _ (kFuncI.K_below BA.out pK2.out) (kFuncI.K_below BA.out qK2.out)).mono ?_
          rintro e w1 ⟨rfl, hb⟩
          have HW2 := Aside0.mk (below_step (below_step HW.out BA.out) hb); clear hb HW
          go_wp2
          go_ret
          exact ⟨by rw [decide_eq_false (fun h => HE2.out (by rw [h]))]; rfl, HW2.out⟩
      · go_wp2
        go_ret
        exact ⟨by rw [decide_eq_true (el_ext zFunc HL.out (fun i hi => HE.out i (by omega)))]; rfl, HW.out⟩
  · have b1 : ((l.length : Int) != (m.length : Int)) = true := by simp; omega
    have HL := Aside0.mk hlen
    clear hr hr2 hlen
    go_enter Try.func90, Try.ntmps90
    go_wp2
    go_ret
    exact ⟨by rw [decide_eq_false (fun h => HL.out (by rw [h]))]; rfl, Below.refl _ _⟩
set_option maxHeartbeats 8000000 in
set_option maxRecDepth 100000 in
theorem implSameImage (x y : Image) (cs ds : List Value) (w : World) (hk : kImageI.K w x cs) (hk2 : kImageI.K w y ds) :
    Calls Try.prog 50 #[.agg ⟨cs⟩, .agg ⟨ds⟩] w fun e w' => e = .returned (.bool (decide (x = y))) ∧ Below w.heap.size w w' := by
  obtain ⟨pA0, pc0, pA1, pc1, rfl, pl0, pg0, pl1, pg1⟩ := kImageI_open hk
  obtain ⟨qA0, qc0, qA1, qc1, rfl, ql0, qg0, ql1, qg1⟩ := kImageI_open hk2
  have hu := Try.underlying74
  clear hk hk2
  have M0 := Aside0.mk (((Mem.start w).allocAt rfl #[.slice pA0 x.funcs.length pc0, .slice pA1 x.consts.length pc1] 74).allocAt (g := w.heap.size + 1) (by simp) #[.slice qA0 y.funcs.length qc0, .slice qA1 y.consts.length qc1] 74)
  have PG0 := Aside0.mk (Kd.C_below pg0 M0.out.below); clear pg0 pl0
  have PG1 := Aside0.mk (Kd.C_below pg1 M0.out.below); clear pg1 pl1
  have QG0 := Aside0.mk (Kd.C_below qg0 M0.out.below); clear qg0 ql0
  have QG1 := Aside0.mk (Kd.C_below qg1 M0.out.below); clear qg1 ql1
  by_cases h0 : x.consts = y.consts
  rotate_left
  · skip
    have HF := Aside0.mk (show decide (x = y) = false from decide_eq_false (fun e => h0 (by rw [e])))
    have d0 : decide (x.consts = y.consts) = false := decide_eq_false h0
    clear h0
    go_enter Try.func50, Try.ntmps50
    go_wp2_with fail
    refine (sliceEqConst _ _ _ _ x.consts y.consts _ PG1.out QG1.out).mono ?_
    rintro e w0 ⟨rfl, hb⟩
    have BQ := Aside0.mk (show Below (((w.alloc (.cells #[.slice pA0 x.funcs.length pc0, .slice pA1 x.consts.length pc1] 74)).alloc (.cells #[.slice qA0 y.funcs.length qc0, .slice qA1 y.consts.length qc1] 74))).heap.size ((w.alloc (.cells #[.slice pA0 x.funcs.length pc0, .slice pA1 x.consts.length pc1] 74)).alloc (.cells #[.slice qA0 y.funcs.length qc0, .slice qA1 y.consts.length qc1] 74)) w0 from (by first | exact hb.below | exact hb))
    have z0 := (M0.out.step BQ.out).box (.tail _ (.head _)); have z1 := (M0.out.step BQ.out).box (.head _)
    clear hb
    go_wp2
    go_ret
    exact ⟨by rw [HF.out]; rfl, (M0.out.step BQ.out).below⟩
  by_cases h1 : x.funcs = y.funcs
  rotate_left
  · skip
    have HF := Aside0.mk (show decide (x = y) = false from decide_eq_false (fun e => h1 (by rw [e])))
    have d0 : decide (x.consts = y.consts) = true := decide_eq_true h0
    have d1 : decide (x.funcs = y.funcs) = false := decide_eq_false h1
    have G0 := Aside0.mk h0
    clear h0 h1
    go_enter Try.func50, Try.ntmps50
    go_wp2_with fail
    refine (sliceEqConst _ _ _ _ x.consts y.consts _ PG1.out QG1.out).mono ?_
    rintro e w0 ⟨rfl, hb⟩
    have BQ := Aside0.mk (show Below (((w.alloc (.cells #[.slice pA0 x.funcs.length pc0, .slice pA1 x.consts.length pc1] 74)).alloc (.cells #[.slice qA0 y.funcs.length qc0, .slice qA1 y.consts.length qc1] 74))).heap.size ((w.alloc (.cells #[.slice pA0 x.funcs.length pc0, .slice pA1 x.consts.length pc1] 74)).alloc (.cells #[.slice qA0 y.funcs.length qc0, .slice qA1 y.consts.length qc1] 74)) w0 from (by first | exact hb.below | exact hb))
    have z0 := (M0.out.step BQ.out).box (.tail _ (.head _)); have z1 := (M0.out.step BQ.out).box (.head _)
    clear hb
    go_wp2_with fail
    refine (equalFunc _ _ _ _ x.funcs y.funcs _ (Kd.C_below PG0.out BQ.out) (Kd.C_below QG0.out BQ.out)).mono ?_
    rintro e w1 ⟨rfl, hb⟩
    have BQ2 := Aside0.mk (below_step BQ.out (by first | exact hb.below | exact hb)); clear BQ; have BQ := BQ2; clear BQ2
    clear z0 z1; have z0 := (M0.out.step BQ.out).box (.tail _ (.head _)); have z1 := (M0.out.step BQ.out).box (.head _)
    clear hb
    go_wp2
    go_ret
    exact ⟨by rw [HF.out]; rfl, (M0.out.step BQ.out).below⟩
  have HT := Aside0.mk (show decide (x = y) = true from decide_eq_true (by cases x; cases y; simp_all))
  have d0 : decide (x.consts = y.consts) = true := decide_eq_true h0
  have d1 : decide (x.funcs = y.funcs) = true := decide_eq_true h1
  have G0 := Aside0.mk h0
  have G1 := Aside0.mk h1
  clear h0 h1
  go_enter Try.func50, Try.ntmps50
  go_wp2_with fail
  refine (sliceEqConst _ _ _ _ x.consts y.consts _ PG1.out QG1.out).mono ?_
  rintro e w0 ⟨rfl, hb⟩
  have BQ := Aside0.mk (show Below (((w.alloc (.cells #[.slice pA0 x.funcs.length pc0, .slice pA1 x.consts.length pc1] 74)).alloc (.cells #[.slice qA0 y.funcs.length qc0, .slice qA1 y.consts.length qc1] 74))).heap.size ((w.alloc (.cells #[.slice pA0 x.funcs.length pc0, .slice pA1 x.consts.length pc1] 74)).alloc (.cells #[.slice qA0 y.funcs.length qc0, .slice qA1 y.consts.length qc1] 74)) w0 from (by first | exact hb.below | exact hb))
  have z0 := (M0.out.step BQ.out).box (.tail _ (.head _)); have z1 := (M0.out.step BQ.out).box (.head _)
  clear hb
  go_wp2_with fail
  refine (equalFunc _ _ _ _ x.funcs y.funcs _ (Kd.C_below PG0.out BQ.out) (Kd.C_below QG0.out BQ.out)).mono ?_
  rintro e w1 ⟨rfl, hb⟩
  have BQ2 := Aside0.mk (below_step BQ.out (by first | exact hb.below | exact hb)); clear BQ; have BQ := BQ2; clear BQ2
  clear z0 z1; have z0 := (M0.out.step BQ.out).box (.tail _ (.head _)); have z1 := (M0.out.step BQ.out).box (.head _)
  clear hb
  go_wp2
  go_ret
  exact ⟨by rw [HT.out]; rfl, (M0.out.step BQ.out).below⟩
end Go.Proofs.Ytdgjbpefbkgnpaa
