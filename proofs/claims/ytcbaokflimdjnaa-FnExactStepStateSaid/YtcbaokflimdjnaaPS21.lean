/- Part 21 of the proof: general lemmas, contracts of functions, walks. No condition of its own. -/
import Derived.WalkKit
import Derived.Deep.RegionWith
import Derived.Deep.RegionHeld3
import Derived.Deep.DeepCutAuto
import Derived.Test.YtcbaokflimdjnaaPS16
import Derived.Test.YtcbaokflimdjnaaPS20
import Derived.Test.YtcbaokflimdjnaaPS19
import Derived.Test.YtcbaokflimdjnaaPS10
import Derived.Test.YtcbaokflimdjnaaPS12
section
namespace Go.Proofs.Ytcbaokflimdjnaa.QFnExactVerify
open Go.RowKit Go.Proofs.YtcbaokflimdjnaaW.PrintWords Go.Proofs.YtcbaokflimdjnaaW.PrintLast Go.Proofs.YtcbaokflimdjnaaW.PrintMore
attribute [local go_sem] max_two min_two max_three min_three max_four min_four run_field194_0 max2_mx min2_mn   -- for this text's walks alone
set_option linter.unusedVariables false
set_option linter.unusedSimpArgs false
def slices_Equal_int_int.l0 : Nat → List Int → List Int → Int → Int → Option (Bool)
  | 0, _, _, _, _ => none
  | k + 1, x0, x1, x12, x13 => if x13 < x12 then (if 0 ≤ x13 then (if x13 < (x0.length : Int) then (if x13 < (x1.length : Int) then (if (rd x0 x13) = (rd x1 x13) then (slices_Equal_int_int.l0 k x0 x1 x12 (wrap64 (x13 + 1))) else (some false)) else (none)) else (none)) else (none)) else (some true)
def slices_Equal_int_int.f (k : Nat) (l0 : List Int) (l1 : List Int) : Option (Bool) := if (l0.length : Int) = (l1.length : Int) then (slices_Equal_int_int.l0 k l0 l1 (l0.length : Int) 0) else (some false)
theorem slices_Equal_int_int.mono_l : ∀ k, (∀ y0 y1 y2 y3, LeO (slices_Equal_int_int.l0 k y0 y1 y2 y3) (slices_Equal_int_int.l0 (k + 1) y0 y1 y2 y3))
  | 0 => fun _ _ _ _ r h => by simp [slices_Equal_int_int.l0] at h
  | k + 1 => by
    have ih0 := slices_Equal_int_int.mono_l k
    · intro y0 y1 y2 y3
      unfold slices_Equal_int_int.l0
      repeat' first
      | (with_reducible exact ih0 _ _ _ _)
      | (with_reducible exact LeO.refl _)
      | (with_reducible exact LeO.none _)
      | (with_reducible refine LeO.ite ?_ ?_)
      | (with_reducible refine LeO.bind ?_ (fun _ => ?_))
      | exact ih0 _ _ _ _
      | exact LeO.none _
      | refine LeO.ite ?_ ?_
      | refine LeO.bind ?_ (fun _ => ?_)
theorem slices_Equal_int_int.mono : ∀ a0 a1 k, LeO (slices_Equal_int_int.f k a0 a1) (slices_Equal_int_int.f (k + 1) a0 a1) := by
  intro a0 a1 k
  have ih0 := slices_Equal_int_int.mono_l k
  unfold slices_Equal_int_int.f
  repeat' first
      | (with_reducible exact ih0 _ _ _ _)
      | (with_reducible exact LeO.refl _)
      | (with_reducible exact LeO.none _)
      | (with_reducible refine LeO.ite ?_ ?_)
      | (with_reducible refine LeO.bind ?_ (fun _ => ?_))
      | exact ih0 _ _ _ _
      | exact LeO.none _
      | refine LeO.ite ?_ ?_
      | refine LeO.bind ?_ (fun _ => ?_)
set_option maxHeartbeats 8000000 in
set_option maxRecDepth 100000 in
theorem slices_Equal_int_int.calls (k : Nat) (A0 : Option Addr) (c0 : Nat) (l0 : List Int) (A1 : Option Addr) (c1 : Nat) (l1 : List Int) (r : Bool) (w : World) (hr0 : Kd.C (Kd.int .i64) w A0 l0.length l0) (hc0 : l0.length ≤ c0) (hr1 : Kd.C (Kd.int .i64) w A1 l1.length l1) (hc1 : l1.length ≤ c1) (h : slices_Equal_int_int.f k l0 l1 = some r) :
    Calls Try.prog 145 #[.slice A0 l0.length c0, .slice A1 l1.length c1] w fun e w' => e = .returned (.bool r) ∧ Drawn0 w w' := by
  have HR0 := Aside0.mk hr0
  have HC0 := Aside0.mk hc0
  clear hr0 hc0
  have HR1 := Aside0.mk hr1
  have HC1 := Aside0.mk hc1
  clear hr1 hc1
  have H : (if (l0.length : Int) = (l1.length : Int) then (slices_Equal_int_int.l0 k l0 l1 (l0.length : Int) 0) else (some false)) = some r := h
  clear h
  by_cases c3 : (l0.length : Int) = (l1.length : Int)
  · rw [if_pos c3] at H
    have c3b0 : ((l0.length : Int) == (l1.length : Int)) = true := beq_iff_eq.mpr c3
    have c3b1 : ((l0.length : Int) != (l1.length : Int)) = false := bne_eq_false_iff_eq.mpr c3
    have c3b2 : (l0.length == l1.length) = true := by first | simpa using c3 | (simp at c3 ⊢; omega)
    clear c3
    have H' := Aside0.mk H
    clear H
    go_enter Try.func145, Try.ntmps145
    go_wp2
    repeat (go_quiet (fail); try go_wp2)
    go_loopg [13] k (fun kq v13 w' => ∃ (x13_1 : Int), v13 = .int .i64 x13_1 ∧ Aside0 (slices_Equal_int_int.l0 kq l0 l1 (l0.length : Int) x13_1 = some r) ∧ Aside0 (kq ≤ k) ∧ Drawn0 w w')
    case atStart => exact ⟨(0), (by first | rfl | (simp; done) | (simp [*]; done)), H', ⟨Nat.le_refl _⟩, by repeat (first | exact Drawn0.refl _ | apply Drawn0.step)⟩
    case round =>
      clear H'
      try clear c1
      try clear p2
      try clear c3
      try clear c3b0
      try clear c3b1
      try clear c3b2
      obtain ⟨x13_1, rfl, HA, HK1, ⟨m1, rfl⟩⟩ := hrel
      cases gk with
      | zero => exact absurd HA.out (by simp [slices_Equal_int_int.l0])
      | succ k1 =>
        have H := HA.out
        clear HA
        simp only [slices_Equal_int_int.l0] at H
        by_cases c4 : x13_1 < (l0.length : Int)
        · rw [if_pos c4] at H
          have c4b0 : decide (x13_1 < (l0.length : Int)) = true := decide_eq_true c4
          clear c4
          by_cases c5 : 0 ≤ x13_1
          · rw [if_pos c5] at H
            have c5b0 : decide (0 ≤ x13_1) = true := decide_eq_true c5
            clear c5
            by_cases c6 : x13_1 < (l0.length : Int)
            · rw [if_pos c6] at H
              have c6b0 : decide (x13_1 < (l0.length : Int)) = true := decide_eq_true c6
              clear c6
              by_cases c7 : x13_1 < (l1.length : Int)
              · rw [if_pos c7] at H
                have c7b0 : decide (x13_1 < (l1.length : Int)) = true := decide_eq_true c7
                clear c7
                by_cases c8 : (rd l0 x13_1) = (rd l1 x13_1)
                · rw [if_pos c8] at H
                  have c8b0 : ((rd l0 x13_1) == (rd l1 x13_1)) = true := beq_iff_eq.mpr c8
                  have c8b1 : ((rd l0 x13_1) != (rd l1 x13_1)) = false := bne_eq_false_iff_eq.mpr c8
                  clear c8
                  have H' := Aside0.mk H
                  clear H
                  have p396 : 0 ≤ (x13_1 : Int) := of_decide_eq_true (by first | (with_reducible assumption) | assumption)
                  have q396 : x13_1 < (l0.length : Int) := of_decide_eq_true (by first | (with_reducible assumption) | assumption)
                  obtain ⟨ad396, e396, hx396_0⟩ := Kd.at_int HR0.out x13_1 p396 q396
                  cases e396
                  replace p396 := eq_true p396
                  replace q396 := eq_true q396
                  have p397 : 0 ≤ (x13_1 : Int) := of_decide_eq_true (by first | (with_reducible assumption) | assumption)
                  have q397 : x13_1 < (l1.length : Int) := of_decide_eq_true (by first | (with_reducible assumption) | assumption)
                  obtain ⟨ad397, e397, hx397_0⟩ := Kd.at_int HR1.out x13_1 p397 q397
                  cases e397
                  replace p397 := eq_true p397
                  replace q397 := eq_true q397
                  go_wp2
                  repeat (go_quiet (fail); try go_wp2)
                  go_roundg k1
                  case measure => have := HK1.out; omega
                  case rel => exact ⟨(wrap64 (x13_1 + 1)), (by first | rfl | (simp; done) | (simp [*]; done)), H', ⟨by have := HK1.out; omega⟩, by repeat (first | exact Drawn0.refl _ | apply Drawn0.step)⟩
                · rw [if_neg c8] at H
                  have c8b0 : ((rd l0 x13_1) == (rd l1 x13_1)) = false := beq_eq_false_iff_ne.mpr c8
                  have c8b1 : ((rd l0 x13_1) != (rd l1 x13_1)) = true := bne_iff_ne.mpr c8
                  obtain rfl := Option.some.inj H
                  have p396 : 0 ≤ (x13_1 : Int) := of_decide_eq_true (by first | (with_reducible assumption) | assumption)
                  have q396 : x13_1 < (l0.length : Int) := of_decide_eq_true (by first | (with_reducible assumption) | assumption)
                  obtain ⟨ad396, e396, hx396_0⟩ := Kd.at_int HR0.out x13_1 p396 q396
                  cases e396
                  replace p396 := eq_true p396
                  replace q396 := eq_true q396
                  have p397 : 0 ≤ (x13_1 : Int) := of_decide_eq_true (by first | (with_reducible assumption) | assumption)
                  have q397 : x13_1 < (l1.length : Int) := of_decide_eq_true (by first | (with_reducible assumption) | assumption)
                  obtain ⟨ad397, e397, hx397_0⟩ := Kd.at_int HR1.out x13_1 p397 q397
                  cases e397
                  replace p397 := eq_true p397
                  replace q397 := eq_true q397
                  go_wp2
                  repeat (go_quiet (fail); try go_wp2)
                  go_ret
                  exact ⟨by first | rfl | (simp; done) | (simp [*]; done), by repeat (first | exact Drawn0.refl _ | apply Drawn0.step)⟩
              · rw [if_neg c7] at H
                exact absurd H (by simp)
            · rw [if_neg c6] at H
              exact absurd H (by simp)
          · rw [if_neg c5] at H
            exact absurd H (by simp)
        · rw [if_neg c4] at H
          have c4b0 : decide (x13_1 < (l0.length : Int)) = false := decide_eq_false c4
          clear c4
          obtain rfl := Option.some.inj H
          go_wp2
          repeat (go_quiet (fail); try go_wp2)
          go_ret
          exact ⟨by first | rfl | (simp; done) | (simp [*]; done), by repeat (first | exact Drawn0.refl _ | apply Drawn0.step)⟩
  · rw [if_neg c3] at H
    have c3b0 : ((l0.length : Int) == (l1.length : Int)) = false := beq_eq_false_iff_ne.mpr c3
    have c3b1 : ((l0.length : Int) != (l1.length : Int)) = true := bne_iff_ne.mpr c3
    have c3b2 : (l0.length == l1.length) = false := by first | simpa using c3 | (simp at c3 ⊢; omega)
    obtain rfl := Option.some.inj H
    go_enter Try.func145, Try.ntmps145
    go_wp2
    repeat (go_quiet (fail); try go_wp2)
    go_ret
    exact ⟨by first | rfl | (simp; done) | (simp [*]; done), by repeat (first | exact Drawn0.refl _ | apply Drawn0.step)⟩
-- NOT PRINTED: function 111 (impl_flow_come)
def impl_takesAcc.f (a0 : Int) : Option (Bool) := if a0 = 3 then (some true) else (if a0 = 4 then (some true) else (if a0 = 6 then (some true) else (if a0 = 8 then (some true) else (if a0 = 9 then (some true) else (if a0 = 10 then (some true) else (if a0 = 11 then (some true) else (if a0 = 17 then (some true) else (if a0 = 18 then (some true) else (if a0 = 19 then (some true) else (if a0 = 14 then (some true) else (if a0 = 13 then (some true) else (some false))))))))))))
set_option maxHeartbeats 8000000 in
set_option maxRecDepth 100000 in
theorem impl_takesAcc.calls (a0 : Int) (r : Bool) (w : World) (h : impl_takesAcc.f a0 = some r) :
    Calls Try.prog 136 #[.int .i64 a0] w fun e w' => e = .returned (.bool r) ∧ Drawn0 w w' := by
  have H : (if a0 = 3 then (some true) else (if a0 = 4 then (some true) else (if a0 = 6 then (some true) else (if a0 = 8 then (some true) else (if a0 = 9 then (some true) else (if a0 = 10 then (some true) else (if a0 = 11 then (some true) else (if a0 = 17 then (some true) else (if a0 = 18 then (some true) else (if a0 = 19 then (some true) else (if a0 = 14 then (some true) else (if a0 = 13 then (some true) else (some false))))))))))))) = some r := h
  clear h
  by_cases c2 : a0 = 3
  · rw [if_pos c2] at H
    have c2b0 : (a0 == 3) = true := beq_iff_eq.mpr c2
    have c2b1 : (a0 != 3) = false := bne_eq_false_iff_eq.mpr c2
    clear c2
    obtain rfl := Option.some.inj H
    go_enter Try.func136, Try.ntmps136
    go_wp2
    go_ret
    exact ⟨by first | rfl | (simp; done) | (simp [*]; done), by repeat (first | exact Drawn0.refl _ | apply Drawn0.step)⟩
  · rw [if_neg c2] at H
    have c2b0 : (a0 == 3) = false := beq_eq_false_iff_ne.mpr c2
    have c2b1 : (a0 != 3) = true := bne_iff_ne.mpr c2
    by_cases c3 : a0 = 4
    · rw [if_pos c3] at H
      have c3b0 : (a0 == 4) = true := beq_iff_eq.mpr c3
      have c3b1 : (a0 != 4) = false := bne_eq_false_iff_eq.mpr c3
      clear c3
      obtain rfl := Option.some.inj H
      go_enter Try.func136, Try.ntmps136
      go_wp2
      go_ret
      exact ⟨by first | rfl | (simp; done) | (simp [*]; done), by repeat (first | exact Drawn0.refl _ | apply Drawn0.step)⟩
    · rw [if_neg c3] at H
      have c3b0 : (a0 == 4) = false := beq_eq_false_iff_ne.mpr c3
      have c3b1 : (a0 != 4) = true := bne_iff_ne.mpr c3
      by_cases c4 : a0 = 6
      · rw [if_pos c4] at H
        have c4b0 : (a0 == 6) = true := beq_iff_eq.mpr c4
        have c4b1 : (a0 != 6) = false := bne_eq_false_iff_eq.mpr c4
        clear c4
        obtain rfl := Option.some.inj H
        go_enter Try.func136, Try.ntmps136
        go_wp2
        go_ret
        exact ⟨by first | rfl | (simp; done) | (simp [*]; done), by repeat (first | exact Drawn0.refl _ | apply Drawn0.step)⟩
      · rw [if_neg c4] at H
        have c4b0 : (a0 == 6) = false := beq_eq_false_iff_ne.mpr c4
        have c4b1 : (a0 != 6) = true := bne_iff_ne.mpr c4
        by_cases c5 : a0 = 8
        · rw [if_pos c5] at H
          have c5b0 : (a0 == 8) = true := beq_iff_eq.mpr c5
          have c5b1 : (a0 != 8) = false := bne_eq_false_iff_eq.mpr c5
          clear c5
          obtain rfl := Option.some.inj H
          go_enter Try.func136, Try.ntmps136
          go_wp2
          go_ret
          exact ⟨by first | rfl | (simp; done) | (simp [*]; done), by repeat (first | exact Drawn0.refl _ | apply Drawn0.step)⟩
        · rw [if_neg c5] at H
          have c5b0 : (a0 == 8) = false := beq_eq_false_iff_ne.mpr c5
          have c5b1 : (a0 != 8) = true := bne_iff_ne.mpr c5
          by_cases c6 : a0 = 9
          · rw [if_pos c6] at H
            have c6b0 : (a0 == 9) = true := beq_iff_eq.mpr c6
            have c6b1 : (a0 != 9) = false := bne_eq_false_iff_eq.mpr c6
            clear c6
            obtain rfl := Option.some.inj H
            go_enter Try.func136, Try.ntmps136
            go_wp2
            go_ret
            exact ⟨by first | rfl | (simp; done) | (simp [*]; done), by repeat (first | exact Drawn0.refl _ | apply Drawn0.step)⟩
          · rw [if_neg c6] at H
            have c6b0 : (a0 == 9) = false := beq_eq_false_iff_ne.mpr c6
            have c6b1 : (a0 != 9) = true := bne_iff_ne.mpr c6
            by_cases c7 : a0 = 10
            · rw [if_pos c7] at H
              have c7b0 : (a0 == 10) = true := beq_iff_eq.mpr c7
              have c7b1 : (a0 != 10) = false := bne_eq_false_iff_eq.mpr c7
              clear c7
              obtain rfl := Option.some.inj H
              go_enter Try.func136, Try.ntmps136
              go_wp2
              go_ret
              exact ⟨by first | rfl | (simp; done) | (simp [*]; done), by repeat (first | exact Drawn0.refl _ | apply Drawn0.step)⟩
            · rw [if_neg c7] at H
              have c7b0 : (a0 == 10) = false := beq_eq_false_iff_ne.mpr c7
              have c7b1 : (a0 != 10) = true := bne_iff_ne.mpr c7
              by_cases c8 : a0 = 11
              · rw [if_pos c8] at H
                have c8b0 : (a0 == 11) = true := beq_iff_eq.mpr c8
                have c8b1 : (a0 != 11) = false := bne_eq_false_iff_eq.mpr c8
                clear c8
                obtain rfl := Option.some.inj H
                go_enter Try.func136, Try.ntmps136
                go_wp2
                go_ret
                exact ⟨by first | rfl | (simp; done) | (simp [*]; done), by repeat (first | exact Drawn0.refl _ | apply Drawn0.step)⟩
              · rw [if_neg c8] at H
                have c8b0 : (a0 == 11) = false := beq_eq_false_iff_ne.mpr c8
                have c8b1 : (a0 != 11) = true := bne_iff_ne.mpr c8
                by_cases c9 : a0 = 17
                · rw [if_pos c9] at H
                  have c9b0 : (a0 == 17) = true := beq_iff_eq.mpr c9
                  have c9b1 : (a0 != 17) = false := bne_eq_false_iff_eq.mpr c9
                  clear c9
                  obtain rfl := Option.some.inj H
                  go_enter Try.func136, Try.ntmps136
                  go_wp2
                  go_ret
                  exact ⟨by first | rfl | (simp; done) | (simp [*]; done), by repeat (first | exact Drawn0.refl _ | apply Drawn0.step)⟩
                · rw [if_neg c9] at H
                  have c9b0 : (a0 == 17) = false := beq_eq_false_iff_ne.mpr c9
                  have c9b1 : (a0 != 17) = true := bne_iff_ne.mpr c9
                  by_cases c10 : a0 = 18
                  · rw [if_pos c10] at H
                    have c10b0 : (a0 == 18) = true := beq_iff_eq.mpr c10
                    have c10b1 : (a0 != 18) = false := bne_eq_false_iff_eq.mpr c10
                    clear c10
                    obtain rfl := Option.some.inj H
                    go_enter Try.func136, Try.ntmps136
                    go_wp2
                    go_ret
                    exact ⟨by first | rfl | (simp; done) | (simp [*]; done), by repeat (first | exact Drawn0.refl _ | apply Drawn0.step)⟩
                  · rw [if_neg c10] at H
                    have c10b0 : (a0 == 18) = false := beq_eq_false_iff_ne.mpr c10
                    have c10b1 : (a0 != 18) = true := bne_iff_ne.mpr c10
                    by_cases c11 : a0 = 19
                    · rw [if_pos c11] at H
                      have c11b0 : (a0 == 19) = true := beq_iff_eq.mpr c11
                      have c11b1 : (a0 != 19) = false := bne_eq_false_iff_eq.mpr c11
                      clear c11
                      obtain rfl := Option.some.inj H
                      go_enter Try.func136, Try.ntmps136
                      go_wp2
                      go_ret
                      exact ⟨by first | rfl | (simp; done) | (simp [*]; done), by repeat (first | exact Drawn0.refl _ | apply Drawn0.step)⟩
                    · rw [if_neg c11] at H
                      have c11b0 : (a0 == 19) = false := beq_eq_false_iff_ne.mpr c11
                      have c11b1 : (a0 != 19) = true := bne_iff_ne.mpr c11
                      by_cases c12 : a0 = 14
                      · rw [if_pos c12] at H
                        have c12b0 : (a0 == 14) = true := beq_iff_eq.mpr c12
                        have c12b1 : (a0 != 14) = false := bne_eq_false_iff_eq.mpr c12
                        clear c12
                        obtain rfl := Option.some.inj H
                        go_enter Try.func136, Try.ntmps136
                        go_wp2
                        go_ret
                        exact ⟨by first | rfl | (simp; done) | (simp [*]; done), by repeat (first | exact Drawn0.refl _ | apply Drawn0.step)⟩
                      · rw [if_neg c12] at H
                        have c12b0 : (a0 == 14) = false := beq_eq_false_iff_ne.mpr c12
                        have c12b1 : (a0 != 14) = true := bne_iff_ne.mpr c12
                        by_cases c13 : a0 = 13
                        · rw [if_pos c13] at H
                          have c13b0 : (a0 == 13) = true := beq_iff_eq.mpr c13
                          have c13b1 : (a0 != 13) = false := bne_eq_false_iff_eq.mpr c13
                          clear c13
                          obtain rfl := Option.some.inj H
                          go_enter Try.func136, Try.ntmps136
                          go_wp2
                          go_ret
                          exact ⟨by first | rfl | (simp; done) | (simp [*]; done), by repeat (first | exact Drawn0.refl _ | apply Drawn0.step)⟩
                        · rw [if_neg c13] at H
                          have c13b0 : (a0 == 13) = false := beq_eq_false_iff_ne.mpr c13
                          have c13b1 : (a0 != 13) = true := bne_iff_ne.mpr c13
                          obtain rfl := Option.some.inj H
                          go_enter Try.func136, Try.ntmps136
                          go_wp2
                          go_ret
                          exact ⟨by first | rfl | (simp; done) | (simp [*]; done), by repeat (first | exact Drawn0.refl _ | apply Drawn0.step)⟩
end Go.Proofs.Ytcbaokflimdjnaa.QFnExactVerify
end
section
namespace Go.Proofs.Ytcbaokflimdjnaa.Flow
open Go.RowKit Go.Proofs.YtcbaokflimdjnaaW.PrintWords Go.Proofs.YtcbaokflimdjnaaW.PrintLast Go.Proofs.Ytcbaokflimdjnaa.Steps Go.Proofs.YtcbaokflimdjnaaW.PrintMore Go.Proofs.Ytcbaokflimdjnaa.Law Go.Proofs.Ytcbaokflimdjnaa Go.Proofs.Ytcbaokflimdjnaa.QFnExactVerify Go.Proofs.Ytcbaokflimdjnaa.Num
set_option linter.unusedVariables false
set_option linter.unusedSimpArgs false
set_option autoImplicit false
set_option maxHeartbeats 8000000 in
set_option maxRecDepth 100000 in
theorem cIsReg (gs : Nat) (s : State) (r v : Int) (AR : Option Addr) (cR : Nat) (w : World) (hs1 : w.cell? ⟨gs, 1, none⟩ = some (.slice AR s.regs.length cR)) (hr : (Kd.int .i64).C w AR s.regs.length s.regs) (hl : s.regs.length ≤ 1048576) :
    Calls Try.prog 137 #[.pointer (some ⟨gs, 0, none⟩), .int .i64 r, .int .i64 v] w fun e w' => e = .returned (.bool (regIs s r v)) ∧ Below w.heap.size w w' := by
  have hu := Try.underlying31
  have HR := Aside0.mk hr; clear hr
  have i4 : IntKind.i64.wrap ((s.regs.length : Int) - 1) = (s.regs.length : Int) - 1 := IntWalk.i64_in _ (by omega)
  have i5 : wrap64 ((s.regs.length : Int) - 1) = (s.regs.length : Int) - 1 := wrap64_id (by omega) (by omega)
  go_enter Try.func137, Try.ntmps137
  go_wp2_with fail
  refine (impl_within.calls _ _ _ _ _ (Img.impl_in r 0 ((s.regs.length : Int) - 1))).mono ?_; rintro e w1 ⟨rfl, ⟨⟨n1, rfl⟩⟩⟩
  rcases Bool.eq_false_or_eq_true (Img.inB r 0 ((s.regs.length : Int) - 1)) with hd | hd
  rotate_left
  · rw [hd]
    go_wp2
    go_ret
    exact ⟨by unfold regIs; have h2 : decide (0 ≤ r ∧ r ≤ (s.regs.length : Int) - 1) = false := hd; rw [h2]; rfl, pw_below_drewN (Below.refl _ _) n1⟩
  rw [hd]
  have hq := of_decide_eq_true hd
  obtain ⟨q, rfl⟩ : ∃ q : Nat, r = q := ⟨r.toNat, by omega⟩
  obtain ⟨a, rfl, ha⟩ := int_at HR.out q (by omega)
  have HD := Aside0.mk (show regIs s (q : Int) v = (el 0 s.regs q == v) by unfold regIs; have h2 : decide (0 ≤ (q : Int) ∧ (q : Int) ≤ (s.regs.length : Int) - 1) = true := hd; rw [h2, Int.toNat_natCast]; rfl)
  clear hd
  have k1 : (0 : Int) ≤ (q : Int) := by omega
  have k2 : (q : Int) < (s.regs.length : Int) := by omega
  have hB := pw_below_drewN (Below.refl w.heap.size w) n1
  have z0 := pw_cell_below hB hs1; have z1 := pw_cell_below hB ha
  clear hs1 ha
  go_wp2
  go_ret
  exact ⟨by rw [HD.out]; rfl, hB⟩
def capsI.T6 : Bool × List (List Nat × List Nat) := (true, [([], []), ([0], [0]), ([1], [1]), ([2], [2]), ([2], [2]), ([4, 2], [2, 4]), ([3, 5, 2, 2], [2, 3, 5]), ([6, 2], [2, 6]), ([2, 7], [2, 7]), ([8, 6], [8]), ([9], [9]), ([10, 9], [9, 10]), ([11, 9], [9, 11]), ([12, 9, 9], [9, 12]), ([13], [13]), ([14, 13], [13, 14]), ([13], [13]), ([16, 13], [13, 16]), ([17, 13], [13, 17]), ([18, 13], [13, 18]), ([19, 13], [13, 19]), ([15, 20, 13], [13, 15, 20]), ([13, 21, 9], [9, 13, 21]), ([9, 22], [9, 22])])
def capsI.B6 : List Nat := [0, 1, 3, 7, 7, 23, 63, 127, 255, 511, 1023, 2047, 4095, 8191, 16383, 32767, 16383, 81919, 212991, 475135, 999423, 2097151, 4194303, 8388607]
theorem capsI.tab6 : rtab .any (opsOf Try.f138 6) = capsI.T6 := by kernel_rfl
theorem capsI.bits6 : waitsOk capsI.T6.2 capsI.B6 = true := by kernel_rfl
def capsB (x : Image) (f : Func) (s : State) (q : Nat) : Bool := decide (1 ≤ (q : Int) ∧ (q : Int) ≤ (x.funcs.length : Int) - 1) && capsTo f s (el zFunc x.funcs q).caps (el zFunc x.funcs q).caps.length
set_option maxHeartbeats 8000000 in
set_option maxRecDepth 100000 in
theorem cCapsAre (x : Image) (j : Nat) (s : State) (gs gx : Nat) (fa : Addr) (c0 : Nat) (A1 : Option Addr) (c1 : Nat) (AR : Option Addr) (cR : Nat) (w : World) (hs0 : w.cell? ⟨gs, 0, none⟩ = some (.int .i64 s.acc)) (hs1 : w.cell? ⟨gs, 1, none⟩ = some (.slice AR s.regs.length cR)) (hr : (Kd.int .i64).C w AR s.regs.length s.regs) (hl : s.regs.length ≤ 1048576) (hx0 : w.cell? ⟨gx, 0, none⟩ = some (.slice (some fa) x.funcs.length c0)) (hx1 : w.cell? ⟨gx, 1, none⟩ = some (.slice A1 x.consts.length c1)) (g0 : kFuncI.C w (some fa) x.funcs.length x.funcs) (hj : j < x.funcs.length) (hx : x.funcs.length ≤ 1048576) (hf : (el zFunc x.funcs j).caps.length ≤ 1048576) (q : Nat) :
    Calls Try.prog 138 #[.pointer (some ⟨gs, 0, none⟩), .pointer (some ⟨gx, 0, none⟩), .pointer (some (fa.add (j * 5))), .int .i64 q] w fun e w' => e = .returned (.bool (capsB x (el zFunc x.funcs j) s q)) ∧ Below w.heap.size w w' := by
  have hu := Try.underlying37; have hu1 := Try.underlying34; have hu2 := Try.underlying73; have hu3 := Try.underlying76; have hu4 := Try.underlying31; have hu5 := Try.underlying69; have hu6 := Try.underlying105
  obtain ⟨fa0, A2, c2, A3, c3, A4, c4, hfa, x0, x1, x2, x3, x4, hcap, hcode, hhan⟩ := func_at5 g0 j hj
  cases hfa
  obtain ⟨f, hfe⟩ : ∃ f, f = el zFunc x.funcs j := ⟨_, rfl⟩
  rw [← hfe] at x0 x1 x2 x3 x4 hcap hcode hhan hf ⊢
  have HFE := Aside0.mk hfe; have G0 := Aside0.mk g0; have HR := Aside0.mk hr; have HJ := Aside0.mk hj
  have F0 := Aside0.mk hs0; have F1 := Aside0.mk hs1; have F2 := Aside0.mk hx0; have F3 := Aside0.mk hx1; have F4 := Aside0.mk x2; have F5 := Aside0.mk x3
  clear g0 hr hj hcap hcode hhan hfe x0 x1 x2 x3 x4 hs0 hs1 hx0 hx1
  have i4 : IntKind.i64.wrap ((x.funcs.length : Int) - 1) = (x.funcs.length : Int) - 1 := IntWalk.i64_in _ (by omega)
  have i5 : wrap64 ((x.funcs.length : Int) - 1) = (x.funcs.length : Int) - 1 := wrap64_id (by omega) (by omega)
  have y2 := F2.out
  go_enter Try.func138, Try.ntmps138
  go_wp2_with fail
  refine (impl_within.calls _ _ _ _ _ (Img.impl_in (q : Int) 1 ((x.funcs.length : Int) - 1))).mono ?_; rintro e w1 ⟨rfl, ⟨⟨n1, rfl⟩⟩⟩
  clear y2
  have M1 := Aside0.mk ((Mem.start w).draw n1)
  rcases Bool.eq_false_or_eq_true (Img.inB (q : Int) 1 ((x.funcs.length : Int) - 1)) with hd | hd
  rotate_left
  · rw [hd]
    go_wp2
    go_ret
    exact ⟨by have h2 : decide (1 ≤ (q : Int) ∧ (q : Int) ≤ (x.funcs.length : Int) - 1) = false := hd; rw [show capsB x f s q = false from by unfold capsB; rw [h2]; rfl]; rfl, M1.out.below⟩
  rw [hd]
  have hq := of_decide_eq_true hd
  have HD := Aside0.mk hd; clear hd
  have hql : q < x.funcs.length := by omega
  have hq2 : (q : Int) < (x.funcs.length : Int) := by omega
  obtain ⟨fb, B2, e2, B3, e3, B4, e4, hfb, v0, v1, v2, v3, v4, gcap, gcode, ghan⟩ := func_at5 G0.out q hql
  cases hfb
  obtain ⟨caps, hcs⟩ : ∃ caps, caps = (el zFunc x.funcs q).caps := ⟨_, rfl⟩
  rw [← hcs] at v2 gcap
  have v2 := pw_cell_below M1.out.below v2
  have GCW := Aside0.mk gcap.2
  have HE := Aside0.mk (show capsB x f s q = capsTo f s caps caps.length from by unfold capsB; have h2 : decide (1 ≤ (q : Int) ∧ (q : Int) ≤ (x.funcs.length : Int) - 1) = true := HD.out; rw [h2, hcs]; rfl)
  clear hcs gcap v0 v1 v3 v4 gcode ghan
  have y2 := pw_cell_below M1.out.below F2.out
  go_upto_region 4 with fail
  clear y2 v2
  go_loopw [29] (fun v wx => ∃ k : Nat, v = .int .i64 k ∧ k ≤ caps.length ∧ capsTo f s caps k = true ∧ Aside0 (Mem w wx [])) (fun v _ => caps.length - (intOf v).toNat)
  case atStart => exact ⟨0, rfl, by omega, rfl, M1⟩
  case round =>
  clear M1
  obtain ⟨k, rfl, hk, hA, M2⟩ := hrel
  have hcl : caps.length ≤ 9223372036854775807 := GCW.out.2.1
  by_cases hlt : k < caps.length
  · have hle : (k : Int) < (caps.length : Int) := by omega
    obtain ⟨ca, hca, cK, y0, y1⟩ := Cap_at (Kd.C_below GCW.out M2.out.below) k hlt
    cases hca
    clear cK
    obtain ⟨c, hce⟩ : ∃ c, c = el zCap caps k := ⟨_, rfl⟩
    rw [← hce] at y0 y1
    have hcp : capB f s c = capB f s (el zCap caps k) := by rw [hce]
    clear hce
    obtain ⟨gc, hgc⟩ : ∃ gc : Nat, gc = wr.heap.size := ⟨_, rfl⟩
    have MB := Aside0.mk (M2.out.allocAt hgc #[.bool c.reg, .int .i64 c.index] 105)
    go_upto_region 6 with fail
    clear y0 y1
    rw [← hgc]
    have HGC := Aside0.mk hgc; clear hgc
    obtain ⟨L, HL, ML⟩ := Mem.hide MB
    have E2 := Aside0.mk (show Hold.box gc #[.bool c.reg, .int .i64 c.index] 105 ∈ L from HL.out ▸ (.head _))
    clear MB
    have MD := Aside0.mk ML.out.drew
    obtain ⟨cr, hcr⟩ : ∃ cr, cr = c.reg := ⟨_, rfl⟩
    skip
    clear hcr cr
    rcases Bool.eq_false_or_eq_true c.reg with hcr | hcr
    · rw [hcr] at MD E2 ⊢
      rcases Bool.eq_false_or_eq_true (regIs s c.index 2) with hq3 | hq3
      · have hcv : capB f s c = true := by unfold capB; rw [hcr]; exact hq3
        refine sz 24 (fun W => W.cell? ⟨gc, 0, none⟩ = some (.bool true) ∧ W.cell? ⟨gc, 1, none⟩ = some (.int .i64 c.index) ∧ W.cell? ⟨(fa.add (j * 5)).block, (fa.add (j * 5)).off + 2, none⟩ = some (.slice A2 f.caps.length c2)) [] capsI.tab6 capsI.bits6 ⟨(MD.out.box E2.out 0).trans rfl, (MD.out.box E2.out 1).trans rfl, pw_cell_below MD.out.below F4.out⟩ (fun HT_ HW_ hHeld => ?_)
        refine pz 0 33 ?_; refine tz 1 34 ?_; refine pz 2 35 ?_; refine pz 3 36 ?_; refine pz 4 37 ?_; refine tz 5 38 ?_
        refine ez 6 (some 39) (fun K hK => ?_)
        refine gz Try.func137 #[.pointer (some ⟨gs, 0, none⟩), .int .i64 c.index, .int .i64 2] ?_
        have C := cIsReg gs s c.index 2 AR cR _ (pw_cell_below MD.out.below F1.out) (Kd.C_below HR.out MD.out.below) hl
        rw [hq3] at C
        refine C.mono ?_; clear C
        rintro e w5 ⟨rfl, hb⟩
        have M5 := Aside0.mk (MD.out.step hb); clear hb
        refine ⟨_, rfl, ?_⟩
        refine hK.out _ _ ⟨(M5.out.box E2.out 0).trans rfl, (M5.out.box E2.out 1).trans rfl, pw_cell_below M5.out.below F4.out⟩ (fun hHeld => ?_); clear hK K; refine kz (some 39) ?_
        refine pz 7 40 ?_; refine pz 8 41 ?_; refine pz 9 42 ?_; refine pz 10 43 ?_; refine tz 11 44 ?_; refine pz 12 45 ?_; refine pz 13 46 ?_; refine oz 14 47 ?_; refine oz 15 48 ?_; refine oz 16 49 ?_; refine oz 17 50 ?_; refine oz 18 51 ?_; refine oz 19 52 ?_; refine oz 20 53 ?_; refine oz 21 54 ?_; refine pz 22 55 ?_; refine pz 23 56 ?_
        refine dz ?_
        have hl3 := HL.out; subst hl3; clear HL E2
        go_wp2
        go_roundw
        case measure => simp [intOf]; omega
        case rel => exact ⟨k + 1, by go_num, by omega, by show (capsTo f s caps k && capB f s (el zCap caps k)) = true; rw [hA, ← hcp, hcv]; rfl, ⟨M5.out.drop⟩⟩
      · have hcv : capB f s c = false := by unfold capB; rw [hcr]; exact hq3
        refine sz 24 (fun W => W.cell? ⟨gc, 0, none⟩ = some (.bool true) ∧ W.cell? ⟨gc, 1, none⟩ = some (.int .i64 c.index) ∧ W.cell? ⟨(fa.add (j * 5)).block, (fa.add (j * 5)).off + 2, none⟩ = some (.slice A2 f.caps.length c2)) [] capsI.tab6 capsI.bits6 ⟨(MD.out.box E2.out 0).trans rfl, (MD.out.box E2.out 1).trans rfl, pw_cell_below MD.out.below F4.out⟩ (fun HT_ HW_ hHeld => ?_)
        refine pz 0 33 ?_; refine tz 1 34 ?_; refine pz 2 35 ?_; refine pz 3 36 ?_; refine pz 4 37 ?_; refine tz 5 38 ?_
        refine ez 6 (some 39) (fun K hK => ?_)
        refine gz Try.func137 #[.pointer (some ⟨gs, 0, none⟩), .int .i64 c.index, .int .i64 2] ?_
        have C := cIsReg gs s c.index 2 AR cR _ (pw_cell_below MD.out.below F1.out) (Kd.C_below HR.out MD.out.below) hl
        rw [hq3] at C
        refine C.mono ?_; clear C
        rintro e w5 ⟨rfl, hb⟩
        have M5 := Aside0.mk (MD.out.step hb); clear hb
        refine ⟨_, rfl, ?_⟩
        refine hK.out _ _ ⟨(M5.out.box E2.out 0).trans rfl, (M5.out.box E2.out 1).trans rfl, pw_cell_below M5.out.below F4.out⟩ (fun hHeld => ?_); clear hK K; refine kz (some 39) ?_
        refine pz 7 40 ?_; refine pz 8 41 ?_; refine pz 9 42 ?_; refine oz 10 43 ?_; refine oz 11 44 ?_; refine oz 12 45 ?_; refine oz 13 46 ?_; refine oz 14 47 ?_; refine oz 15 48 ?_; refine oz 16 49 ?_; refine oz 17 50 ?_; refine oz 18 51 ?_; refine oz 19 52 ?_; refine oz 20 53 ?_; refine oz 21 54 ?_; refine oz 22 55 ?_; refine pz 23 56 ?_
        refine dz ?_
        have hl3 := HL.out; subst hl3; clear HL E2
        go_wp2
        go_ret
        exact ⟨by rw [HE.out, caps_no f s caps (k := k) (by rw [← hcp]; exact hcv) hlt]; rfl, M5.out.below⟩
    · rw [hcr] at MD E2 ⊢
      rcases Bool.eq_false_or_eq_true (decide (c.index < (f.caps.length : Int))) with hq3 | hq3
      · have hcv : capB f s c = true := by unfold capB; rw [hcr]; exact hq3
        have hq4 : decide ((f.caps.length : Int) ≤ c.index) = false := by have h := of_decide_eq_true hq3; simp; omega
        refine sz 24 (fun W => W.cell? ⟨gc, 0, none⟩ = some (.bool false) ∧ W.cell? ⟨gc, 1, none⟩ = some (.int .i64 c.index) ∧ W.cell? ⟨(fa.add (j * 5)).block, (fa.add (j * 5)).off + 2, none⟩ = some (.slice A2 f.caps.length c2)) [] capsI.tab6 capsI.bits6 ⟨(MD.out.box E2.out 0).trans rfl, (MD.out.box E2.out 1).trans rfl, pw_cell_below MD.out.below F4.out⟩ (fun HT_ HW_ hHeld => ?_)
        refine pz 0 33 ?_; refine tz 1 34 ?_; refine pz 2 35 ?_; refine oz 3 36 ?_; refine oz 4 37 ?_; refine oz 5 38 ?_; refine oz 6 39 ?_; refine oz 7 40 ?_; refine pz 8 41 ?_; refine pz 9 42 ?_; refine pz 10 43 ?_; refine tz 11 44 ?_; refine pz 12 45 ?_; refine pz 13 46 ?_; refine pz 14 47 ?_; refine pz 16 49 ?_; refine pz 17 50 ?_; refine pz 18 51 ?_; refine tz 15 48 ?_; refine tz 19 52 ?_; refine pz 20 53 ?_; refine pz 21 54 ?_; refine pz 22 55 ?_; refine pz 23 56 ?_
        refine dz ?_
        have hl3 := HL.out; subst hl3; clear HL E2
        go_wp2
        go_roundw
        case measure => simp [intOf]; omega
        case rel => exact ⟨k + 1, by go_num, by omega, by show (capsTo f s caps k && capB f s (el zCap caps k)) = true; rw [hA, ← hcp, hcv]; rfl, ⟨MD.out.drop⟩⟩
      · have hcv : capB f s c = false := by unfold capB; rw [hcr]; exact hq3
        have hq4 : decide ((f.caps.length : Int) ≤ c.index) = true := by have h := of_decide_eq_false hq3; simp; omega
        refine sz 24 (fun W => W.cell? ⟨gc, 0, none⟩ = some (.bool false) ∧ W.cell? ⟨gc, 1, none⟩ = some (.int .i64 c.index) ∧ W.cell? ⟨(fa.add (j * 5)).block, (fa.add (j * 5)).off + 2, none⟩ = some (.slice A2 f.caps.length c2)) [] capsI.tab6 capsI.bits6 ⟨(MD.out.box E2.out 0).trans rfl, (MD.out.box E2.out 1).trans rfl, pw_cell_below MD.out.below F4.out⟩ (fun HT_ HW_ hHeld => ?_)
        refine pz 0 33 ?_; refine tz 1 34 ?_; refine pz 2 35 ?_; refine oz 3 36 ?_; refine oz 4 37 ?_; refine oz 5 38 ?_; refine oz 6 39 ?_; refine oz 7 40 ?_; refine pz 8 41 ?_; refine pz 9 42 ?_; refine pz 10 43 ?_; refine tz 11 44 ?_; refine pz 12 45 ?_; refine pz 13 46 ?_; refine pz 14 47 ?_; refine pz 16 49 ?_; refine pz 17 50 ?_; refine pz 18 51 ?_; refine tz 15 48 ?_; refine tz 19 52 ?_; refine pz 20 53 ?_; refine pz 21 54 ?_; refine pz 22 55 ?_; refine pz 23 56 ?_
        refine dz ?_
        have hl3 := HL.out; subst hl3; clear HL E2
        go_wp2
        go_ret
        exact ⟨by rw [HE.out, caps_no f s caps (k := k) (by rw [← hcp]; exact hcv) hlt]; rfl, MD.out.below⟩
  · have hle : ¬ (k : Int) < (caps.length : Int) := by omega
    obtain rfl : k = caps.length := by omega
    go_wp2
    go_ret
    exact ⟨by rw [HE.out, hA]; rfl, M2.out.below⟩
end Go.Proofs.Ytcbaokflimdjnaa.Flow
end
section
namespace Go.Proofs.Ytcbaokflimdjnaa.Flow
open Go.RowKit Go.Proofs.YtcbaokflimdjnaaW.PrintWords Go.Proofs.YtcbaokflimdjnaaW.PrintLast Go.Proofs.Ytcbaokflimdjnaa.Steps Go.Proofs.YtcbaokflimdjnaaW.PrintMore Go.Proofs.Ytcbaokflimdjnaa.Law Go.Proofs.Ytcbaokflimdjnaa Go.Proofs.Ytcbaokflimdjnaa.QFnExactVerify Go.Proofs.Ytcbaokflimdjnaa.Num
set_option linter.unusedVariables false
set_option linter.unusedSimpArgs false
set_option autoImplicit false
def wantI.T5 : Bool × List (List Nat × List Nat) := (true, [([], []), ([0], [0]), ([], []), ([2], [2]), ([3], [3]), ([4], [4]), ([5], [5]), ([1, 6], [1, 6]), ([7, 0, 1, 2, 3, 4, 5, 6, 7], [7])])
def wantI.B5 : List Nat := [0, 1, 0, 4, 12, 28, 60, 127, 255]
theorem wantI.tab5 : rtab .any (opsOf Try.f101 5) = wantI.T5 := by kernel_rfl
theorem wantI.bits5 : waitsOk wantI.T5.2 wantI.B5 = true := by kernel_rfl
def wantI.T10 : Bool × List (List Nat × List Nat) := (true, [([], []), ([0], [0]), ([], []), ([2], [2]), ([3], [3]), ([4], [4]), ([5], [5]), ([1, 6], [1, 6]), ([7, 0, 1, 2, 3, 4, 5, 6, 7], [7])])
def wantI.B10 : List Nat := [0, 1, 0, 4, 12, 28, 60, 127, 255]
theorem wantI.tab10 : rtab .any (opsOf Try.f101 10) = wantI.T10 := by kernel_rfl
theorem wantI.bits10 : waitsOk wantI.T10.2 wantI.B10 = true := by kernel_rfl
def wantI.T16 : Bool × List (List Nat × List Nat) := (true, [([], []), ([0], [0]), ([], []), ([2], [2]), ([3], [3]), ([4], [4]), ([5], [5]), ([1, 6], [1, 6]), ([7, 0, 1, 2, 3, 4, 5, 6, 7], [7])])
def wantI.B16 : List Nat := [0, 1, 0, 4, 12, 28, 60, 127, 255]
theorem wantI.tab16 : rtab .any (opsOf Try.f101 16) = wantI.T16 := by kernel_rfl
theorem wantI.bits16 : waitsOk wantI.T16.2 wantI.B16 = true := by kernel_rfl
def wantI.T22 : Bool × List (List Nat × List Nat) := (true, [([], []), ([0], [0]), ([], []), ([2], [2]), ([3], [3]), ([4], [4]), ([5], [5]), ([1, 6], [1, 6]), ([7, 0, 1, 2, 3, 4, 5, 6, 7], [7])])
def wantI.B22 : List Nat := [0, 1, 0, 4, 12, 28, 60, 127, 255]
theorem wantI.tab22 : rtab .any (opsOf Try.f101 22) = wantI.T22 := by kernel_rfl
theorem wantI.bits22 : waitsOk wantI.T22.2 wantI.B22 = true := by kernel_rfl
/-- What is known of an instruction of kind op, and of the memory, when wants is called. -/
structure WH (x : Image) (j : Nat) (s : State) (gs gx : Nat) (fa : Addr) (c0 : Nat) (A1 : Option Addr) (c1 : Nat) (AR : Option Addr) (cR : Nat) (w : World) (op ia ib : Int) (f : Func) (A2 : Option Addr) (c2 : Nat) (A3 : Option Addr) (c3 : Nat) : Prop where
  HFE : Aside0 (f = el zFunc x.funcs j)
  G0 : Aside0 (kFuncI.C w (some fa) x.funcs.length x.funcs)
  HR : Aside0 ((Kd.int .i64).C w AR s.regs.length s.regs)
  HJ : Aside0 (j < x.funcs.length)
  F0 : Aside0 (w.cell? ⟨gs, 0, none⟩ = some (.int .i64 s.acc))
  F1 : Aside0 (w.cell? ⟨gs, 1, none⟩ = some (.slice AR s.regs.length cR))
  F2 : Aside0 (w.cell? ⟨gx, 0, none⟩ = some (.slice (some fa) x.funcs.length c0))
  F3 : Aside0 (w.cell? ⟨gx, 1, none⟩ = some (.slice A1 x.consts.length c1))
  F4 : Aside0 (w.cell? ⟨(fa.add (j * 5)).block, (fa.add (j * 5)).off + 2, none⟩ = some (.slice A2 f.caps.length c2))
  F5 : Aside0 (w.cell? ⟨(fa.add (j * 5)).block, (fa.add (j * 5)).off + 3, none⟩ = some (.slice A3 f.code.length c3))
  hl : s.regs.length ≤ 1048576
  hx : x.funcs.length ≤ 1048576
  ha : 0 ≤ ia ∧ ia ≤ 300
  hb : 0 ≤ ib ∧ ib ≤ 300
  hf : f.caps.length ≤ 1048576
def WantAt (op : Int) : Prop := ∀ (x : Image) (j : Nat) (s : State) (gs gx : Nat) (fa : Addr) (c0 : Nat) (A1 : Option Addr) (c1 : Nat) (AR : Option Addr) (cR : Nat) (w : World) (hs0 : w.cell? ⟨gs, 0, none⟩ = some (.int .i64 s.acc)) (hs1 : w.cell? ⟨gs, 1, none⟩ = some (.slice AR s.regs.length cR)) (hr : (Kd.int .i64).C w AR s.regs.length s.regs) (hl : s.regs.length ≤ 1048576) (hx0 : w.cell? ⟨gx, 0, none⟩ = some (.slice (some fa) x.funcs.length c0)) (hx1 : w.cell? ⟨gx, 1, none⟩ = some (.slice A1 x.consts.length c1)) (g0 : kFuncI.C w (some fa) x.funcs.length x.funcs) (hj : j < x.funcs.length) (hx : x.funcs.length ≤ 1048576) (hf : (el zFunc x.funcs j).caps.length ≤ 1048576) (ia ib : Int) (ha : 0 ≤ ia ∧ ia ≤ 300) (hb : 0 ≤ ib ∧ ib ≤ 300),
    Calls Try.prog 101 #[.pointer (some ⟨gs, 0, none⟩), .pointer (some ⟨gx, 0, none⟩), .pointer (some (fa.add (j * 5))), .agg #[.int .i64 op, .int .i64 ia, .int .i64 ib]] w fun e w' => e = .returned (.bool (mayB x (el zFunc x.funcs j) ⟨op, ia, ib⟩ s)) ∧ Below w.heap.size w w'
theorem want_at (op : Int) (h : ∀ x j s gs gx fa c0 A1 c1 AR cR w ia ib f A2 c2 A3 c3, WH x j s gs gx fa c0 A1 c1 AR cR w op ia ib f A2 c2 A3 c3 → Calls Try.prog 101 #[.pointer (some ⟨gs, 0, none⟩), .pointer (some ⟨gx, 0, none⟩), .pointer (some (fa.add (j * 5))), .agg #[.int .i64 op, .int .i64 ia, .int .i64 ib]] w fun e w' => e = .returned (.bool (mayB x f ⟨op, ia, ib⟩ s)) ∧ Below w.heap.size w w') : WantAt op := by
  intro x j s gs gx fa c0 A1 c1 AR cR w hs0 hs1 hr hl hx0 hx1 g0 hj hx hf ia ib ha hb
  obtain ⟨fa0, A2, c2, A3, c3, A4, c4, hfa, x0, x1, x2, x3, x4, hcap, hcode, hhan⟩ := func_at5 g0 j hj
  cases hfa
  obtain ⟨f, hfe⟩ : ∃ f, f = el zFunc x.funcs j := ⟨_, rfl⟩
  rw [← hfe] at x2 x3 hf ⊢
  exact h x j s gs gx fa c0 A1 c1 AR cR w ia ib f A2 c2 A3 c3 ⟨⟨hfe⟩, ⟨g0⟩, ⟨hr⟩, ⟨hj⟩, ⟨hs0⟩, ⟨hs1⟩, ⟨hx0⟩, ⟨hx1⟩, ⟨x2⟩, ⟨x3⟩, hl, hx, ha, hb, hf⟩
theorem want_no {x : Image} {f : Func} {s : State} {ia ib : Int} (op : Int) (h1 : 1 ≤ op) (h2 : op ≤ 19) (h3 : (op == 3 || op == 4 || op == 6 || op == 8 || op == 9 || op == 10 || op == 11 || op == 13 || op == 14 || op == 17 || op == 18 || op == 19) = true) (hacc : (s.acc == 1) = false) : mayB x f ⟨op, ia, ib⟩ s = false := by
  have h : op = 3 ∨ op = 4 ∨ op = 6 ∨ op = 8 ∨ op = 9 ∨ op = 10 ∨ op = 11 ∨ op = 13 ∨ op = 14 ∨ op = 17 ∨ op = 18 ∨ op = 19 := by simpa [or_assoc] using h3
  have hn : ¬ s.acc = 1 := by simpa using hacc
  rcases h with rfl | rfl | rfl | rfl | rfl | rfl | rfl | rfl | rfl | rfl | rfl | rfl <;> (unfold mayB; simp [hn])
set_option maxHeartbeats 8000000 in
set_option maxRecDepth 100000 in
theorem want10 : WantAt 10 := by
  refine want_at 10 ?_
  rintro x j s gs gx fa c0 A1 c1 AR cR w ia ib f A2 c2 A3 c3 ⟨HFE, G0, HR, HJ, F0, F1, F2, F3, F4, F5, hl, hx, ha, hb, hf⟩
  have hu := Try.underlying37; have hu1 := Try.underlying34; have hu2 := Try.underlying73; have hu3 := Try.underlying76; have hu4 := Try.underlying31; have hu5 := Try.underlying69; have hu6 := Try.underlying105
  have M0 := Aside0.mk ((Mem.start w).allocAt rfl #[.int .i64 10, .int .i64 ia, .int .i64 ib] 76)
  have z0 := M0.out.box (.head _)
  go_enter Try.func101, Try.ntmps101
  go_wp2_with fail
  refine (impl_takesAcc.calls 10 true _ (by unfold impl_takesAcc.f; simp)).mono ?_; rintro e w1 ⟨rfl, ⟨⟨n0, rfl⟩⟩⟩
  have M0 := Aside0.mk (M0.out.draw n0); clear z0
  generalize World.drewN (World.alloc w (.cells #[.int .i64 10, .int .i64 ia, .int .i64 ib] 76)) n0 = wq at M0 ⊢
  have z0 := M0.out.box (.head _)
  have y0 := pw_cell_below M0.out.below F0.out; have y1 := pw_cell_below M0.out.below F1.out; have y2 := pw_cell_below M0.out.below F2.out; have y3 := pw_cell_below M0.out.below F3.out; have y4 := pw_cell_below M0.out.below F4.out; have y5 := pw_cell_below M0.out.below F5.out
  rcases Bool.eq_false_or_eq_true (s.acc == 1) with hacc | hacc
  rotate_left
  · have hacn : (s.acc != 1) = true := by unfold bne; rw [hacc]; rfl
    go_wp2
    go_ret
    exact ⟨by rw [want_no 10 (by decide) (by decide) (by decide) hacc]; rfl, M0.out.below⟩
  have hacn : (s.acc != 1) = false := by unfold bne; rw [hacc]; rfl
  go_wp2
  go_ret
  exact ⟨by rw [show mayB x f ⟨10, ia, ib⟩ s = true from by unfold mayB; simp [hacc]]; rfl, M0.out.below⟩
set_option maxHeartbeats 8000000 in
set_option maxRecDepth 100000 in
theorem want11 : WantAt 11 := by
  refine want_at 11 ?_
  rintro x j s gs gx fa c0 A1 c1 AR cR w ia ib f A2 c2 A3 c3 ⟨HFE, G0, HR, HJ, F0, F1, F2, F3, F4, F5, hl, hx, ha, hb, hf⟩
  have hu := Try.underlying37; have hu1 := Try.underlying34; have hu2 := Try.underlying73; have hu3 := Try.underlying76; have hu4 := Try.underlying31; have hu5 := Try.underlying69; have hu6 := Try.underlying105
  have M0 := Aside0.mk ((Mem.start w).allocAt rfl #[.int .i64 11, .int .i64 ia, .int .i64 ib] 76)
  have z0 := M0.out.box (.head _)
  go_enter Try.func101, Try.ntmps101
  go_wp2_with fail
  refine (impl_takesAcc.calls 11 true _ (by unfold impl_takesAcc.f; simp)).mono ?_; rintro e w1 ⟨rfl, ⟨⟨n0, rfl⟩⟩⟩
  have M0 := Aside0.mk (M0.out.draw n0); clear z0
  generalize World.drewN (World.alloc w (.cells #[.int .i64 11, .int .i64 ia, .int .i64 ib] 76)) n0 = wq at M0 ⊢
  have z0 := M0.out.box (.head _)
  have y0 := pw_cell_below M0.out.below F0.out; have y1 := pw_cell_below M0.out.below F1.out; have y2 := pw_cell_below M0.out.below F2.out; have y3 := pw_cell_below M0.out.below F3.out; have y4 := pw_cell_below M0.out.below F4.out; have y5 := pw_cell_below M0.out.below F5.out
  rcases Bool.eq_false_or_eq_true (s.acc == 1) with hacc | hacc
  rotate_left
  · have hacn : (s.acc != 1) = true := by unfold bne; rw [hacc]; rfl
    go_wp2
    go_ret
    exact ⟨by rw [want_no 11 (by decide) (by decide) (by decide) hacc]; rfl, M0.out.below⟩
  have hacn : (s.acc != 1) = false := by unfold bne; rw [hacc]; rfl
  go_wp2
  go_ret
  exact ⟨by rw [show mayB x f ⟨11, ia, ib⟩ s = true from by unfold mayB; simp [hacc]]; rfl, M0.out.below⟩
set_option maxHeartbeats 8000000 in
set_option maxRecDepth 100000 in
theorem want17 : WantAt 17 := by
  refine want_at 17 ?_
  rintro x j s gs gx fa c0 A1 c1 AR cR w ia ib f A2 c2 A3 c3 ⟨HFE, G0, HR, HJ, F0, F1, F2, F3, F4, F5, hl, hx, ha, hb, hf⟩
  have hu := Try.underlying37; have hu1 := Try.underlying34; have hu2 := Try.underlying73; have hu3 := Try.underlying76; have hu4 := Try.underlying31; have hu5 := Try.underlying69; have hu6 := Try.underlying105
  have M0 := Aside0.mk ((Mem.start w).allocAt rfl #[.int .i64 17, .int .i64 ia, .int .i64 ib] 76)
  have z0 := M0.out.box (.head _)
  go_enter Try.func101, Try.ntmps101
  go_wp2_with fail
  refine (impl_takesAcc.calls 17 true _ (by unfold impl_takesAcc.f; simp)).mono ?_; rintro e w1 ⟨rfl, ⟨⟨n0, rfl⟩⟩⟩
  have M0 := Aside0.mk (M0.out.draw n0); clear z0
  generalize World.drewN (World.alloc w (.cells #[.int .i64 17, .int .i64 ia, .int .i64 ib] 76)) n0 = wq at M0 ⊢
  have z0 := M0.out.box (.head _)
  have y0 := pw_cell_below M0.out.below F0.out; have y1 := pw_cell_below M0.out.below F1.out; have y2 := pw_cell_below M0.out.below F2.out; have y3 := pw_cell_below M0.out.below F3.out; have y4 := pw_cell_below M0.out.below F4.out; have y5 := pw_cell_below M0.out.below F5.out
  rcases Bool.eq_false_or_eq_true (s.acc == 1) with hacc | hacc
  rotate_left
  · have hacn : (s.acc != 1) = true := by unfold bne; rw [hacc]; rfl
    go_wp2
    go_ret
    exact ⟨by rw [want_no 17 (by decide) (by decide) (by decide) hacc]; rfl, M0.out.below⟩
  have hacn : (s.acc != 1) = false := by unfold bne; rw [hacc]; rfl
  go_wp2
  go_ret
  exact ⟨by rw [show mayB x f ⟨17, ia, ib⟩ s = true from by unfold mayB; simp [hacc]]; rfl, M0.out.below⟩
set_option maxHeartbeats 8000000 in
set_option maxRecDepth 100000 in
theorem want18 : WantAt 18 := by
  refine want_at 18 ?_
  rintro x j s gs gx fa c0 A1 c1 AR cR w ia ib f A2 c2 A3 c3 ⟨HFE, G0, HR, HJ, F0, F1, F2, F3, F4, F5, hl, hx, ha, hb, hf⟩
  have hu := Try.underlying37; have hu1 := Try.underlying34; have hu2 := Try.underlying73; have hu3 := Try.underlying76; have hu4 := Try.underlying31; have hu5 := Try.underlying69; have hu6 := Try.underlying105
  have M0 := Aside0.mk ((Mem.start w).allocAt rfl #[.int .i64 18, .int .i64 ia, .int .i64 ib] 76)
  have z0 := M0.out.box (.head _)
  go_enter Try.func101, Try.ntmps101
  go_wp2_with fail
  refine (impl_takesAcc.calls 18 true _ (by unfold impl_takesAcc.f; simp)).mono ?_; rintro e w1 ⟨rfl, ⟨⟨n0, rfl⟩⟩⟩
  have M0 := Aside0.mk (M0.out.draw n0); clear z0
  generalize World.drewN (World.alloc w (.cells #[.int .i64 18, .int .i64 ia, .int .i64 ib] 76)) n0 = wq at M0 ⊢
  have z0 := M0.out.box (.head _)
  have y0 := pw_cell_below M0.out.below F0.out; have y1 := pw_cell_below M0.out.below F1.out; have y2 := pw_cell_below M0.out.below F2.out; have y3 := pw_cell_below M0.out.below F3.out; have y4 := pw_cell_below M0.out.below F4.out; have y5 := pw_cell_below M0.out.below F5.out
  rcases Bool.eq_false_or_eq_true (s.acc == 1) with hacc | hacc
  rotate_left
  · have hacn : (s.acc != 1) = true := by unfold bne; rw [hacc]; rfl
    go_wp2
    go_ret
    exact ⟨by rw [want_no 18 (by decide) (by decide) (by decide) hacc]; rfl, M0.out.below⟩
  have hacn : (s.acc != 1) = false := by unfold bne; rw [hacc]; rfl
  go_wp2
  go_ret
  exact ⟨by rw [show mayB x f ⟨18, ia, ib⟩ s = true from by unfold mayB; simp [hacc]]; rfl, M0.out.below⟩
set_option maxHeartbeats 8000000 in
set_option maxRecDepth 100000 in
theorem want19 : WantAt 19 := by
  refine want_at 19 ?_
  rintro x j s gs gx fa c0 A1 c1 AR cR w ia ib f A2 c2 A3 c3 ⟨HFE, G0, HR, HJ, F0, F1, F2, F3, F4, F5, hl, hx, ha, hb, hf⟩
  have hu := Try.underlying37; have hu1 := Try.underlying34; have hu2 := Try.underlying73; have hu3 := Try.underlying76; have hu4 := Try.underlying31; have hu5 := Try.underlying69; have hu6 := Try.underlying105
  have M0 := Aside0.mk ((Mem.start w).allocAt rfl #[.int .i64 19, .int .i64 ia, .int .i64 ib] 76)
  have z0 := M0.out.box (.head _)
  go_enter Try.func101, Try.ntmps101
  go_wp2_with fail
  refine (impl_takesAcc.calls 19 true _ (by unfold impl_takesAcc.f; simp)).mono ?_; rintro e w1 ⟨rfl, ⟨⟨n0, rfl⟩⟩⟩
  have M0 := Aside0.mk (M0.out.draw n0); clear z0
  generalize World.drewN (World.alloc w (.cells #[.int .i64 19, .int .i64 ia, .int .i64 ib] 76)) n0 = wq at M0 ⊢
  have z0 := M0.out.box (.head _)
  have y0 := pw_cell_below M0.out.below F0.out; have y1 := pw_cell_below M0.out.below F1.out; have y2 := pw_cell_below M0.out.below F2.out; have y3 := pw_cell_below M0.out.below F3.out; have y4 := pw_cell_below M0.out.below F4.out; have y5 := pw_cell_below M0.out.below F5.out
  rcases Bool.eq_false_or_eq_true (s.acc == 1) with hacc | hacc
  rotate_left
  · have hacn : (s.acc != 1) = true := by unfold bne; rw [hacc]; rfl
    go_wp2
    go_ret
    exact ⟨by rw [want_no 19 (by decide) (by decide) (by decide) hacc]; rfl, M0.out.below⟩
  have hacn : (s.acc != 1) = false := by unfold bne; rw [hacc]; rfl
  go_wp2
  go_ret
  exact ⟨by rw [show mayB x f ⟨19, ia, ib⟩ s = true from by unfold mayB; simp [hacc]]; rfl, M0.out.below⟩
set_option maxHeartbeats 8000000 in
set_option maxRecDepth 100000 in
theorem want1 : WantAt 1 := by
  refine want_at 1 ?_
  rintro x j s gs gx fa c0 A1 c1 AR cR w ia ib f A2 c2 A3 c3 ⟨HFE, G0, HR, HJ, F0, F1, F2, F3, F4, F5, hl, hx, ha, hb, hf⟩
  have hu := Try.underlying37; have hu1 := Try.underlying34; have hu2 := Try.underlying73; have hu3 := Try.underlying76; have hu4 := Try.underlying31; have hu5 := Try.underlying69; have hu6 := Try.underlying105
  have M0 := Aside0.mk ((Mem.start w).allocAt rfl #[.int .i64 1, .int .i64 ia, .int .i64 ib] 76)
  have z0 := M0.out.box (.head _)
  go_enter Try.func101, Try.ntmps101
  go_wp2_with fail
  refine (impl_takesAcc.calls 1 false _ (by unfold impl_takesAcc.f; simp)).mono ?_; rintro e w1 ⟨rfl, ⟨⟨n0, rfl⟩⟩⟩
  have M0 := Aside0.mk (M0.out.draw n0); clear z0
  generalize World.drewN (World.alloc w (.cells #[.int .i64 1, .int .i64 ia, .int .i64 ib] 76)) n0 = wq at M0 ⊢
  have z0 := M0.out.box (.head _)
  have y0 := pw_cell_below M0.out.below F0.out; have y1 := pw_cell_below M0.out.below F1.out; have y2 := pw_cell_below M0.out.below F2.out; have y3 := pw_cell_below M0.out.below F3.out; have y4 := pw_cell_below M0.out.below F4.out; have y5 := pw_cell_below M0.out.below F5.out
  go_upto_region 5 with fail
  clear z0; clear y0 y1 y2 y3 y4 y5
  have MD := Aside0.mk M0.out.drew
  refine sz 9 (fun W => W.cell? ⟨w.heap.size, 1, none⟩ = some (.int .i64 ia) ∧ W.cell? ⟨gx, 1, none⟩ = some (.slice A1 x.consts.length c1)) [] wantI.tab5 wantI.bits5 ⟨(MD.out.box (.head _) 1).trans rfl, pw_cell_below MD.out.below F3.out⟩ (fun HT_ HW_ hHeld => ?_)
  refine pz 0 24 ?_; refine pz 2 26 ?_; refine pz 3 27 ?_; refine pz 4 28 ?_; refine tz 1 25 ?_; refine tz 5 29 ?_; refine pz 6 30 ?_; refine pz 7 31 ?_; refine pz 8 8 ?_
  refine dz ?_
  go_wp2
  go_ret
  exact ⟨by rw [show mayB x f ⟨1, ia, ib⟩ s = decide (ia < (x.consts.length : Int)) from by unfold mayB; simp]; rfl, MD.out.below⟩
set_option maxHeartbeats 8000000 in
set_option maxRecDepth 100000 in
theorem want7 : WantAt 7 := by
  refine want_at 7 ?_
  rintro x j s gs gx fa c0 A1 c1 AR cR w ia ib f A2 c2 A3 c3 ⟨HFE, G0, HR, HJ, F0, F1, F2, F3, F4, F5, hl, hx, ha, hb, hf⟩
  have hu := Try.underlying37; have hu1 := Try.underlying34; have hu2 := Try.underlying73; have hu3 := Try.underlying76; have hu4 := Try.underlying31; have hu5 := Try.underlying69; have hu6 := Try.underlying105
  have M0 := Aside0.mk ((Mem.start w).allocAt rfl #[.int .i64 7, .int .i64 ia, .int .i64 ib] 76)
  have z0 := M0.out.box (.head _)
  go_enter Try.func101, Try.ntmps101
  go_wp2_with fail
  refine (impl_takesAcc.calls 7 false _ (by unfold impl_takesAcc.f; simp)).mono ?_; rintro e w1 ⟨rfl, ⟨⟨n0, rfl⟩⟩⟩
  have M0 := Aside0.mk (M0.out.draw n0); clear z0
  generalize World.drewN (World.alloc w (.cells #[.int .i64 7, .int .i64 ia, .int .i64 ib] 76)) n0 = wq at M0 ⊢
  have z0 := M0.out.box (.head _)
  have y0 := pw_cell_below M0.out.below F0.out; have y1 := pw_cell_below M0.out.below F1.out; have y2 := pw_cell_below M0.out.below F2.out; have y3 := pw_cell_below M0.out.below F3.out; have y4 := pw_cell_below M0.out.below F4.out; have y5 := pw_cell_below M0.out.below F5.out
  go_upto_region 16 with fail
  clear z0; clear y0 y1 y2 y3 y4 y5
  have MD := Aside0.mk M0.out.drew
  refine sz 9 (fun W => W.cell? ⟨w.heap.size, 1, none⟩ = some (.int .i64 ia) ∧ W.cell? ⟨(fa.add (j * 5)).block, (fa.add (j * 5)).off + 2, none⟩ = some (.slice A2 f.caps.length c2)) [] wantI.tab16 wantI.bits16 ⟨(MD.out.box (.head _) 1).trans rfl, pw_cell_below MD.out.below F4.out⟩ (fun HT_ HW_ hHeld => ?_)
  refine pz 0 59 ?_; refine pz 2 61 ?_; refine pz 3 62 ?_; refine pz 4 63 ?_; refine tz 1 60 ?_; refine tz 5 64 ?_; refine pz 6 65 ?_; refine pz 7 66 ?_; refine pz 8 8 ?_
  refine dz ?_
  go_wp2
  go_ret
  exact ⟨by rw [show mayB x f ⟨7, ia, ib⟩ s = decide (ia < (f.caps.length : Int)) from by unfold mayB; simp]; rfl, MD.out.below⟩
set_option maxHeartbeats 8000000 in
set_option maxRecDepth 100000 in
theorem want8 : WantAt 8 := by
  refine want_at 8 ?_
  rintro x j s gs gx fa c0 A1 c1 AR cR w ia ib f A2 c2 A3 c3 ⟨HFE, G0, HR, HJ, F0, F1, F2, F3, F4, F5, hl, hx, ha, hb, hf⟩
  have hu := Try.underlying37; have hu1 := Try.underlying34; have hu2 := Try.underlying73; have hu3 := Try.underlying76; have hu4 := Try.underlying31; have hu5 := Try.underlying69; have hu6 := Try.underlying105
  have M0 := Aside0.mk ((Mem.start w).allocAt rfl #[.int .i64 8, .int .i64 ia, .int .i64 ib] 76)
  have z0 := M0.out.box (.head _)
  go_enter Try.func101, Try.ntmps101
  go_wp2_with fail
  refine (impl_takesAcc.calls 8 true _ (by unfold impl_takesAcc.f; simp)).mono ?_; rintro e w1 ⟨rfl, ⟨⟨n0, rfl⟩⟩⟩
  have M0 := Aside0.mk (M0.out.draw n0); clear z0
  generalize World.drewN (World.alloc w (.cells #[.int .i64 8, .int .i64 ia, .int .i64 ib] 76)) n0 = wq at M0 ⊢
  have z0 := M0.out.box (.head _)
  have y0 := pw_cell_below M0.out.below F0.out; have y1 := pw_cell_below M0.out.below F1.out; have y2 := pw_cell_below M0.out.below F2.out; have y3 := pw_cell_below M0.out.below F3.out; have y4 := pw_cell_below M0.out.below F4.out; have y5 := pw_cell_below M0.out.below F5.out
  rcases Bool.eq_false_or_eq_true (s.acc == 1) with hacc | hacc
  rotate_left
  · have hacn : (s.acc != 1) = true := by unfold bne; rw [hacc]; rfl
    go_wp2
    go_ret
    exact ⟨by rw [want_no 8 (by decide) (by decide) (by decide) hacc]; rfl, M0.out.below⟩
  have hacn : (s.acc != 1) = false := by unfold bne; rw [hacc]; rfl
  go_upto_region 16 with fail
  clear z0; clear y0 y1 y2 y3 y4 y5
  have MD := Aside0.mk M0.out.drew
  refine sz 9 (fun W => W.cell? ⟨w.heap.size, 1, none⟩ = some (.int .i64 ia) ∧ W.cell? ⟨(fa.add (j * 5)).block, (fa.add (j * 5)).off + 2, none⟩ = some (.slice A2 f.caps.length c2)) [] wantI.tab16 wantI.bits16 ⟨(MD.out.box (.head _) 1).trans rfl, pw_cell_below MD.out.below F4.out⟩ (fun HT_ HW_ hHeld => ?_)
  refine pz 0 59 ?_; refine pz 2 61 ?_; refine pz 3 62 ?_; refine pz 4 63 ?_; refine tz 1 60 ?_; refine tz 5 64 ?_; refine pz 6 65 ?_; refine pz 7 66 ?_; refine pz 8 8 ?_
  refine dz ?_
  go_wp2
  go_ret
  exact ⟨by rw [show mayB x f ⟨8, ia, ib⟩ s = decide (ia < (f.caps.length : Int)) from by unfold mayB; simp [hacc]]; rfl, MD.out.below⟩
set_option maxHeartbeats 8000000 in
set_option maxRecDepth 100000 in
theorem want12 : WantAt 12 := by
  refine want_at 12 ?_
  rintro x j s gs gx fa c0 A1 c1 AR cR w ia ib f A2 c2 A3 c3 ⟨HFE, G0, HR, HJ, F0, F1, F2, F3, F4, F5, hl, hx, ha, hb, hf⟩
  have hu := Try.underlying37; have hu1 := Try.underlying34; have hu2 := Try.underlying73; have hu3 := Try.underlying76; have hu4 := Try.underlying31; have hu5 := Try.underlying69; have hu6 := Try.underlying105
  have M0 := Aside0.mk ((Mem.start w).allocAt rfl #[.int .i64 12, .int .i64 ia, .int .i64 ib] 76)
  have z0 := M0.out.box (.head _)
  go_enter Try.func101, Try.ntmps101
  go_wp2_with fail
  refine (impl_takesAcc.calls 12 false _ (by unfold impl_takesAcc.f; simp)).mono ?_; rintro e w1 ⟨rfl, ⟨⟨n0, rfl⟩⟩⟩
  have M0 := Aside0.mk (M0.out.draw n0); clear z0
  generalize World.drewN (World.alloc w (.cells #[.int .i64 12, .int .i64 ia, .int .i64 ib] 76)) n0 = wq at M0 ⊢
  have z0 := M0.out.box (.head _)
  have y0 := pw_cell_below M0.out.below F0.out; have y1 := pw_cell_below M0.out.below F1.out; have y2 := pw_cell_below M0.out.below F2.out; have y3 := pw_cell_below M0.out.below F3.out; have y4 := pw_cell_below M0.out.below F4.out; have y5 := pw_cell_below M0.out.below F5.out
  go_upto_region 22 with fail
  clear z0; clear y0 y1 y2 y3 y4 y5
  have MD := Aside0.mk M0.out.drew
  refine sz 9 (fun W => W.cell? ⟨w.heap.size, 1, none⟩ = some (.int .i64 ia) ∧ W.cell? ⟨(fa.add (j * 5)).block, (fa.add (j * 5)).off + 3, none⟩ = some (.slice A3 f.code.length c3)) [] wantI.tab22 wantI.bits22 ⟨(MD.out.box (.head _) 1).trans rfl, pw_cell_below MD.out.below F5.out⟩ (fun HT_ HW_ hHeld => ?_)
  refine pz 0 82 ?_; refine pz 2 84 ?_; refine pz 3 85 ?_; refine pz 4 86 ?_; refine tz 1 83 ?_; refine tz 5 87 ?_; refine pz 6 88 ?_; refine pz 7 89 ?_; refine pz 8 8 ?_
  refine dz ?_
  go_wp2
  go_ret
  exact ⟨by rw [show mayB x f ⟨12, ia, ib⟩ s = decide (ia < (f.code.length : Int)) from by unfold mayB; simp]; rfl, MD.out.below⟩
set_option maxHeartbeats 8000000 in
set_option maxRecDepth 100000 in
theorem want13 : WantAt 13 := by
  refine want_at 13 ?_
  rintro x j s gs gx fa c0 A1 c1 AR cR w ia ib f A2 c2 A3 c3 ⟨HFE, G0, HR, HJ, F0, F1, F2, F3, F4, F5, hl, hx, ha, hb, hf⟩
  have hu := Try.underlying37; have hu1 := Try.underlying34; have hu2 := Try.underlying73; have hu3 := Try.underlying76; have hu4 := Try.underlying31; have hu5 := Try.underlying69; have hu6 := Try.underlying105
  have M0 := Aside0.mk ((Mem.start w).allocAt rfl #[.int .i64 13, .int .i64 ia, .int .i64 ib] 76)
  have z0 := M0.out.box (.head _)
  go_enter Try.func101, Try.ntmps101
  go_wp2_with fail
  refine (impl_takesAcc.calls 13 true _ (by unfold impl_takesAcc.f; simp)).mono ?_; rintro e w1 ⟨rfl, ⟨⟨n0, rfl⟩⟩⟩
  have M0 := Aside0.mk (M0.out.draw n0); clear z0
  generalize World.drewN (World.alloc w (.cells #[.int .i64 13, .int .i64 ia, .int .i64 ib] 76)) n0 = wq at M0 ⊢
  have z0 := M0.out.box (.head _)
  have y0 := pw_cell_below M0.out.below F0.out; have y1 := pw_cell_below M0.out.below F1.out; have y2 := pw_cell_below M0.out.below F2.out; have y3 := pw_cell_below M0.out.below F3.out; have y4 := pw_cell_below M0.out.below F4.out; have y5 := pw_cell_below M0.out.below F5.out
  rcases Bool.eq_false_or_eq_true (s.acc == 1) with hacc | hacc
  rotate_left
  · have hacn : (s.acc != 1) = true := by unfold bne; rw [hacc]; rfl
    go_wp2
    go_ret
    exact ⟨by rw [want_no 13 (by decide) (by decide) (by decide) hacc]; rfl, M0.out.below⟩
  have hacn : (s.acc != 1) = false := by unfold bne; rw [hacc]; rfl
  go_upto_region 22 with fail
  clear z0; clear y0 y1 y2 y3 y4 y5
  have MD := Aside0.mk M0.out.drew
  refine sz 9 (fun W => W.cell? ⟨w.heap.size, 1, none⟩ = some (.int .i64 ia) ∧ W.cell? ⟨(fa.add (j * 5)).block, (fa.add (j * 5)).off + 3, none⟩ = some (.slice A3 f.code.length c3)) [] wantI.tab22 wantI.bits22 ⟨(MD.out.box (.head _) 1).trans rfl, pw_cell_below MD.out.below F5.out⟩ (fun HT_ HW_ hHeld => ?_)
  refine pz 0 82 ?_; refine pz 2 84 ?_; refine pz 3 85 ?_; refine pz 4 86 ?_; refine tz 1 83 ?_; refine tz 5 87 ?_; refine pz 6 88 ?_; refine pz 7 89 ?_; refine pz 8 8 ?_
  refine dz ?_
  go_wp2
  go_ret
  exact ⟨by rw [show mayB x f ⟨13, ia, ib⟩ s = decide (ia < (f.code.length : Int)) from by unfold mayB; simp [hacc]]; rfl, MD.out.below⟩
set_option maxHeartbeats 8000000 in
set_option maxRecDepth 100000 in
theorem want14 : WantAt 14 := by
  refine want_at 14 ?_
  rintro x j s gs gx fa c0 A1 c1 AR cR w ia ib f A2 c2 A3 c3 ⟨HFE, G0, HR, HJ, F0, F1, F2, F3, F4, F5, hl, hx, ha, hb, hf⟩
  have hu := Try.underlying37; have hu1 := Try.underlying34; have hu2 := Try.underlying73; have hu3 := Try.underlying76; have hu4 := Try.underlying31; have hu5 := Try.underlying69; have hu6 := Try.underlying105
  have M0 := Aside0.mk ((Mem.start w).allocAt rfl #[.int .i64 14, .int .i64 ia, .int .i64 ib] 76)
  have z0 := M0.out.box (.head _)
  go_enter Try.func101, Try.ntmps101
  go_wp2_with fail
  refine (impl_takesAcc.calls 14 true _ (by unfold impl_takesAcc.f; simp)).mono ?_; rintro e w1 ⟨rfl, ⟨⟨n0, rfl⟩⟩⟩
  have M0 := Aside0.mk (M0.out.draw n0); clear z0
  generalize World.drewN (World.alloc w (.cells #[.int .i64 14, .int .i64 ia, .int .i64 ib] 76)) n0 = wq at M0 ⊢
  have z0 := M0.out.box (.head _)
  have y0 := pw_cell_below M0.out.below F0.out; have y1 := pw_cell_below M0.out.below F1.out; have y2 := pw_cell_below M0.out.below F2.out; have y3 := pw_cell_below M0.out.below F3.out; have y4 := pw_cell_below M0.out.below F4.out; have y5 := pw_cell_below M0.out.below F5.out
  rcases Bool.eq_false_or_eq_true (s.acc == 1) with hacc | hacc
  rotate_left
  · have hacn : (s.acc != 1) = true := by unfold bne; rw [hacc]; rfl
    go_wp2
    go_ret
    exact ⟨by rw [want_no 14 (by decide) (by decide) (by decide) hacc]; rfl, M0.out.below⟩
  have hacn : (s.acc != 1) = false := by unfold bne; rw [hacc]; rfl
  go_upto_region 22 with fail
  clear z0; clear y0 y1 y2 y3 y4 y5
  have MD := Aside0.mk M0.out.drew
  refine sz 9 (fun W => W.cell? ⟨w.heap.size, 1, none⟩ = some (.int .i64 ia) ∧ W.cell? ⟨(fa.add (j * 5)).block, (fa.add (j * 5)).off + 3, none⟩ = some (.slice A3 f.code.length c3)) [] wantI.tab22 wantI.bits22 ⟨(MD.out.box (.head _) 1).trans rfl, pw_cell_below MD.out.below F5.out⟩ (fun HT_ HW_ hHeld => ?_)
  refine pz 0 82 ?_; refine pz 2 84 ?_; refine pz 3 85 ?_; refine pz 4 86 ?_; refine tz 1 83 ?_; refine tz 5 87 ?_; refine pz 6 88 ?_; refine pz 7 89 ?_; refine pz 8 8 ?_
  refine dz ?_
  go_wp2
  go_ret
  exact ⟨by rw [show mayB x f ⟨14, ia, ib⟩ s = decide (ia < (f.code.length : Int)) from by unfold mayB; simp [hacc]]; rfl, MD.out.below⟩
set_option maxHeartbeats 8000000 in
set_option maxRecDepth 100000 in
theorem want3 : WantAt 3 := by
  refine want_at 3 ?_
  rintro x j s gs gx fa c0 A1 c1 AR cR w ia ib f A2 c2 A3 c3 ⟨HFE, G0, HR, HJ, F0, F1, F2, F3, F4, F5, hl, hx, ha, hb, hf⟩
  have hu := Try.underlying37; have hu1 := Try.underlying34; have hu2 := Try.underlying73; have hu3 := Try.underlying76; have hu4 := Try.underlying31; have hu5 := Try.underlying69; have hu6 := Try.underlying105
  have M0 := Aside0.mk ((Mem.start w).allocAt rfl #[.int .i64 3, .int .i64 ia, .int .i64 ib] 76)
  have z0 := M0.out.box (.head _)
  go_enter Try.func101, Try.ntmps101
  go_wp2_with fail
  refine (impl_takesAcc.calls 3 true _ (by unfold impl_takesAcc.f; simp)).mono ?_; rintro e w1 ⟨rfl, ⟨⟨n0, rfl⟩⟩⟩
  have M0 := Aside0.mk (M0.out.draw n0); clear z0
  generalize World.drewN (World.alloc w (.cells #[.int .i64 3, .int .i64 ia, .int .i64 ib] 76)) n0 = wq at M0 ⊢
  have z0 := M0.out.box (.head _)
  have y0 := pw_cell_below M0.out.below F0.out; have y1 := pw_cell_below M0.out.below F1.out; have y2 := pw_cell_below M0.out.below F2.out; have y3 := pw_cell_below M0.out.below F3.out; have y4 := pw_cell_below M0.out.below F4.out; have y5 := pw_cell_below M0.out.below F5.out
  rcases Bool.eq_false_or_eq_true (s.acc == 1) with hacc | hacc
  rotate_left
  · have hacn : (s.acc != 1) = true := by unfold bne; rw [hacc]; rfl
    go_wp2
    go_ret
    exact ⟨by rw [want_no 3 (by decide) (by decide) (by decide) hacc]; rfl, M0.out.below⟩
  have hacn : (s.acc != 1) = false := by unfold bne; rw [hacc]; rfl
  go_upto_region 10 with fail
  clear z0; clear y0 y1 y2 y3 y4 y5
  have MD := Aside0.mk M0.out.drew
  refine sz 9 (fun W => W.cell? ⟨w.heap.size, 1, none⟩ = some (.int .i64 ia) ∧ W.cell? ⟨gs, 1, none⟩ = some (.slice AR s.regs.length cR)) [] wantI.tab10 wantI.bits10 ⟨(MD.out.box (.head _) 1).trans rfl, pw_cell_below MD.out.below F1.out⟩ (fun HT_ HW_ hHeld => ?_)
  refine pz 0 41 ?_; refine pz 2 43 ?_; refine pz 3 44 ?_; refine pz 4 45 ?_; refine tz 1 42 ?_; refine tz 5 46 ?_; refine pz 6 47 ?_; refine pz 7 48 ?_; refine pz 8 8 ?_
  refine dz ?_
  go_wp2
  go_ret
  exact ⟨by rw [show mayB x f ⟨3, ia, ib⟩ s = decide (ia < (s.regs.length : Int)) from by have e : decide (0 ≤ ia ∧ ia ≤ (s.regs.length : Int) - 1) = decide (ia < (s.regs.length : Int)) := decide_eq_decide.2 ⟨fun h => by omega, fun h => by omega⟩; unfold mayB room; rw [e]; simp [hacc]]; rfl, MD.out.below⟩
set_option maxHeartbeats 8000000 in
set_option maxRecDepth 100000 in
theorem want4 : WantAt 4 := by
  refine want_at 4 ?_
  rintro x j s gs gx fa c0 A1 c1 AR cR w ia ib f A2 c2 A3 c3 ⟨HFE, G0, HR, HJ, F0, F1, F2, F3, F4, F5, hl, hx, ha, hb, hf⟩
  have hu := Try.underlying37; have hu1 := Try.underlying34; have hu2 := Try.underlying73; have hu3 := Try.underlying76; have hu4 := Try.underlying31; have hu5 := Try.underlying69; have hu6 := Try.underlying105
  have M0 := Aside0.mk ((Mem.start w).allocAt rfl #[.int .i64 4, .int .i64 ia, .int .i64 ib] 76)
  have z0 := M0.out.box (.head _)
  go_enter Try.func101, Try.ntmps101
  go_wp2_with fail
  refine (impl_takesAcc.calls 4 true _ (by unfold impl_takesAcc.f; simp)).mono ?_; rintro e w1 ⟨rfl, ⟨⟨n0, rfl⟩⟩⟩
  have M0 := Aside0.mk (M0.out.draw n0); clear z0
  generalize World.drewN (World.alloc w (.cells #[.int .i64 4, .int .i64 ia, .int .i64 ib] 76)) n0 = wq at M0 ⊢
  have z0 := M0.out.box (.head _)
  have y0 := pw_cell_below M0.out.below F0.out; have y1 := pw_cell_below M0.out.below F1.out; have y2 := pw_cell_below M0.out.below F2.out; have y3 := pw_cell_below M0.out.below F3.out; have y4 := pw_cell_below M0.out.below F4.out; have y5 := pw_cell_below M0.out.below F5.out
  rcases Bool.eq_false_or_eq_true (s.acc == 1) with hacc | hacc
  rotate_left
  · have hacn : (s.acc != 1) = true := by unfold bne; rw [hacc]; rfl
    go_wp2
    go_ret
    exact ⟨by rw [want_no 4 (by decide) (by decide) (by decide) hacc]; rfl, M0.out.below⟩
  have hacn : (s.acc != 1) = false := by unfold bne; rw [hacc]; rfl
  go_upto_region 10 with fail
  clear z0; clear y0 y1 y2 y3 y4 y5
  have MD := Aside0.mk M0.out.drew
  refine sz 9 (fun W => W.cell? ⟨w.heap.size, 1, none⟩ = some (.int .i64 ia) ∧ W.cell? ⟨gs, 1, none⟩ = some (.slice AR s.regs.length cR)) [] wantI.tab10 wantI.bits10 ⟨(MD.out.box (.head _) 1).trans rfl, pw_cell_below MD.out.below F1.out⟩ (fun HT_ HW_ hHeld => ?_)
  refine pz 0 41 ?_; refine pz 2 43 ?_; refine pz 3 44 ?_; refine pz 4 45 ?_; refine tz 1 42 ?_; refine tz 5 46 ?_; refine pz 6 47 ?_; refine pz 7 48 ?_; refine pz 8 8 ?_
  refine dz ?_
  go_wp2
  go_ret
  exact ⟨by rw [show mayB x f ⟨4, ia, ib⟩ s = decide (ia < (s.regs.length : Int)) from by have e : decide (0 ≤ ia ∧ ia ≤ (s.regs.length : Int) - 1) = decide (ia < (s.regs.length : Int)) := decide_eq_decide.2 ⟨fun h => by omega, fun h => by omega⟩; unfold mayB room; rw [e]; simp [hacc]]; rfl, MD.out.below⟩
set_option maxHeartbeats 8000000 in
set_option maxRecDepth 100000 in
theorem want2 : WantAt 2 := by
  refine want_at 2 ?_
  rintro x j s gs gx fa c0 A1 c1 AR cR w ia ib f A2 c2 A3 c3 ⟨HFE, G0, HR, HJ, F0, F1, F2, F3, F4, F5, hl, hx, ha, hb, hf⟩
  have hu := Try.underlying37; have hu1 := Try.underlying34; have hu2 := Try.underlying73; have hu3 := Try.underlying76; have hu4 := Try.underlying31; have hu5 := Try.underlying69; have hu6 := Try.underlying105
  have M0 := Aside0.mk ((Mem.start w).allocAt rfl #[.int .i64 2, .int .i64 ia, .int .i64 ib] 76)
  have z0 := M0.out.box (.head _)
  go_enter Try.func101, Try.ntmps101
  go_wp2_with fail
  refine (impl_takesAcc.calls 2 false _ (by unfold impl_takesAcc.f; simp)).mono ?_; rintro e w1 ⟨rfl, ⟨⟨n0, rfl⟩⟩⟩
  have M0 := Aside0.mk (M0.out.draw n0); clear z0
  generalize World.drewN (World.alloc w (.cells #[.int .i64 2, .int .i64 ia, .int .i64 ib] 76)) n0 = wq at M0 ⊢
  have z0 := M0.out.box (.head _)
  have y0 := pw_cell_below M0.out.below F0.out; have y1 := pw_cell_below M0.out.below F1.out; have y2 := pw_cell_below M0.out.below F2.out; have y3 := pw_cell_below M0.out.below F3.out; have y4 := pw_cell_below M0.out.below F4.out; have y5 := pw_cell_below M0.out.below F5.out
  go_wp2_with fail
  refine (cIsReg gs s ia 1 AR cR _ y1 (Kd.C_below HR.out M0.out.below) hl).mono ?_; rintro e w2 ⟨rfl, hb⟩
  have M2 := Aside0.mk (M0.out.step hb); clear hb M0 z0; clear y0 y1 y2 y3 y4 y5
  go_wp2
  go_ret
  exact ⟨by rw [show mayB x f ⟨2, ia, ib⟩ s = regIs s ia 1 from by unfold mayB; simp]; rfl, M2.out.below⟩
set_option maxHeartbeats 8000000 in
set_option maxRecDepth 100000 in
theorem want5 : WantAt 5 := by
  refine want_at 5 ?_
  rintro x j s gs gx fa c0 A1 c1 AR cR w ia ib f A2 c2 A3 c3 ⟨HFE, G0, HR, HJ, F0, F1, F2, F3, F4, F5, hl, hx, ha, hb, hf⟩
  have hu := Try.underlying37; have hu1 := Try.underlying34; have hu2 := Try.underlying73; have hu3 := Try.underlying76; have hu4 := Try.underlying31; have hu5 := Try.underlying69; have hu6 := Try.underlying105
  have M0 := Aside0.mk ((Mem.start w).allocAt rfl #[.int .i64 5, .int .i64 ia, .int .i64 ib] 76)
  have z0 := M0.out.box (.head _)
  go_enter Try.func101, Try.ntmps101
  go_wp2_with fail
  refine (impl_takesAcc.calls 5 false _ (by unfold impl_takesAcc.f; simp)).mono ?_; rintro e w1 ⟨rfl, ⟨⟨n0, rfl⟩⟩⟩
  have M0 := Aside0.mk (M0.out.draw n0); clear z0
  generalize World.drewN (World.alloc w (.cells #[.int .i64 5, .int .i64 ia, .int .i64 ib] 76)) n0 = wq at M0 ⊢
  have z0 := M0.out.box (.head _)
  have y0 := pw_cell_below M0.out.below F0.out; have y1 := pw_cell_below M0.out.below F1.out; have y2 := pw_cell_below M0.out.below F2.out; have y3 := pw_cell_below M0.out.below F3.out; have y4 := pw_cell_below M0.out.below F4.out; have y5 := pw_cell_below M0.out.below F5.out
  go_wp2_with fail
  refine (cIsReg gs s ia 2 AR cR _ y1 (Kd.C_below HR.out M0.out.below) hl).mono ?_; rintro e w2 ⟨rfl, hb⟩
  have M2 := Aside0.mk (M0.out.step hb); clear hb M0 z0; clear y0 y1 y2 y3 y4 y5
  go_wp2
  go_ret
  exact ⟨by rw [show mayB x f ⟨5, ia, ib⟩ s = regIs s ia 2 from by unfold mayB; simp]; rfl, M2.out.below⟩
set_option maxHeartbeats 8000000 in
set_option maxRecDepth 100000 in
theorem want6 : WantAt 6 := by
  refine want_at 6 ?_
  rintro x j s gs gx fa c0 A1 c1 AR cR w ia ib f A2 c2 A3 c3 ⟨HFE, G0, HR, HJ, F0, F1, F2, F3, F4, F5, hl, hx, ha, hb, hf⟩
  have hu := Try.underlying37; have hu1 := Try.underlying34; have hu2 := Try.underlying73; have hu3 := Try.underlying76; have hu4 := Try.underlying31; have hu5 := Try.underlying69; have hu6 := Try.underlying105
  have M0 := Aside0.mk ((Mem.start w).allocAt rfl #[.int .i64 6, .int .i64 ia, .int .i64 ib] 76)
  have z0 := M0.out.box (.head _)
  go_enter Try.func101, Try.ntmps101
  go_wp2_with fail
  refine (impl_takesAcc.calls 6 true _ (by unfold impl_takesAcc.f; simp)).mono ?_; rintro e w1 ⟨rfl, ⟨⟨n0, rfl⟩⟩⟩
  have M0 := Aside0.mk (M0.out.draw n0); clear z0
  generalize World.drewN (World.alloc w (.cells #[.int .i64 6, .int .i64 ia, .int .i64 ib] 76)) n0 = wq at M0 ⊢
  have z0 := M0.out.box (.head _)
  have y0 := pw_cell_below M0.out.below F0.out; have y1 := pw_cell_below M0.out.below F1.out; have y2 := pw_cell_below M0.out.below F2.out; have y3 := pw_cell_below M0.out.below F3.out; have y4 := pw_cell_below M0.out.below F4.out; have y5 := pw_cell_below M0.out.below F5.out
  rcases Bool.eq_false_or_eq_true (s.acc == 1) with hacc | hacc
  rotate_left
  · have hacn : (s.acc != 1) = true := by unfold bne; rw [hacc]; rfl
    go_wp2
    go_ret
    exact ⟨by rw [want_no 6 (by decide) (by decide) (by decide) hacc]; rfl, M0.out.below⟩
  have hacn : (s.acc != 1) = false := by unfold bne; rw [hacc]; rfl
  go_wp2_with fail
  refine (cIsReg gs s ia 2 AR cR _ y1 (Kd.C_below HR.out M0.out.below) hl).mono ?_; rintro e w2 ⟨rfl, hb⟩
  have M2 := Aside0.mk (M0.out.step hb); clear hb M0 z0; clear y0 y1 y2 y3 y4 y5
  go_wp2
  go_ret
  exact ⟨by rw [show mayB x f ⟨6, ia, ib⟩ s = regIs s ia 2 from by unfold mayB; simp [hacc]]; rfl, M2.out.below⟩
set_option maxHeartbeats 8000000 in
set_option maxRecDepth 100000 in
theorem want9 : WantAt 9 := by
  refine want_at 9 ?_
  rintro x j s gs gx fa c0 A1 c1 AR cR w ia ib f A2 c2 A3 c3 ⟨HFE, G0, HR, HJ, F0, F1, F2, F3, F4, F5, hl, hx, ha, hb, hf⟩
  have hu := Try.underlying37; have hu1 := Try.underlying34; have hu2 := Try.underlying73; have hu3 := Try.underlying76; have hu4 := Try.underlying31; have hu5 := Try.underlying69; have hu6 := Try.underlying105
  have M0 := Aside0.mk ((Mem.start w).allocAt rfl #[.int .i64 9, .int .i64 ia, .int .i64 ib] 76)
  have z0 := M0.out.box (.head _)
  go_enter Try.func101, Try.ntmps101
  go_wp2_with fail
  refine (impl_takesAcc.calls 9 true _ (by unfold impl_takesAcc.f; simp)).mono ?_; rintro e w1 ⟨rfl, ⟨⟨n0, rfl⟩⟩⟩
  have M0 := Aside0.mk (M0.out.draw n0); clear z0
  generalize World.drewN (World.alloc w (.cells #[.int .i64 9, .int .i64 ia, .int .i64 ib] 76)) n0 = wq at M0 ⊢
  have z0 := M0.out.box (.head _)
  have y0 := pw_cell_below M0.out.below F0.out; have y1 := pw_cell_below M0.out.below F1.out; have y2 := pw_cell_below M0.out.below F2.out; have y3 := pw_cell_below M0.out.below F3.out; have y4 := pw_cell_below M0.out.below F4.out; have y5 := pw_cell_below M0.out.below F5.out
  rcases Bool.eq_false_or_eq_true (s.acc == 1) with hacc | hacc
  rotate_left
  · have hacn : (s.acc != 1) = true := by unfold bne; rw [hacc]; rfl
    go_wp2
    go_ret
    exact ⟨by rw [want_no 9 (by decide) (by decide) (by decide) hacc]; rfl, M0.out.below⟩
  have hacn : (s.acc != 1) = false := by unfold bne; rw [hacc]; rfl
  go_wp2_with fail
  refine (impl_within.calls _ _ _ _ _ (Img.impl_in ia 1 11)).mono ?_; rintro e w1 ⟨rfl, ⟨⟨n1, rfl⟩⟩⟩
  have M1 := Aside0.mk (M0.out.draw n1); clear M0 z0; clear y0 y1 y2 y3 y4 y5
  have z0 := M1.out.box (.head _)
  rcases Bool.eq_false_or_eq_true (Img.inB ia 1 11) with hd | hd
  rotate_left
  · rw [hd]
    go_wp2
    go_ret
    exact ⟨by rw [show mayB x f ⟨9, ia, ib⟩ s = false from by unfold mayB; have h2 : decide (1 ≤ ia ∧ ia ≤ 11) = false := hd; simp only [h2]; simp]; rfl, M1.out.below⟩
  rw [hd]
  have y0 := pw_cell_below M1.out.below F0.out; have y1 := pw_cell_below M1.out.below F1.out; have y2 := pw_cell_below M1.out.below F2.out; have y3 := pw_cell_below M1.out.below F3.out; have y4 := pw_cell_below M1.out.below F4.out; have y5 := pw_cell_below M1.out.below F5.out
  go_wp2_with fail
  refine (cIsReg gs s ib 1 AR cR _ y1 (Kd.C_below HR.out M1.out.below) hl).mono ?_; rintro e w2 ⟨rfl, hb⟩
  have M2 := Aside0.mk (M1.out.step hb); clear hb M1 z0; clear y0 y1 y2 y3 y4 y5
  have HE := Aside0.mk (show mayB x f ⟨9, ia, ib⟩ s = regIs s ib 1 from by unfold mayB; have h2 : decide (1 ≤ ia ∧ ia ≤ 11) = true := hd; simp only [h2, hacc]; simp)
  clear hd
  go_wp2
  go_ret
  exact ⟨by rw [HE.out]; rfl, M2.out.below⟩
set_option maxHeartbeats 8000000 in
set_option maxRecDepth 100000 in
theorem want15 : WantAt 15 := by
  refine want_at 15 ?_
  rintro x j s gs gx fa c0 A1 c1 AR cR w ia ib f A2 c2 A3 c3 ⟨HFE, G0, HR, HJ, F0, F1, F2, F3, F4, F5, hl, hx, ha, hb, hf⟩
  have hu := Try.underlying37; have hu1 := Try.underlying34; have hu2 := Try.underlying73; have hu3 := Try.underlying76; have hu4 := Try.underlying31; have hu5 := Try.underlying69; have hu6 := Try.underlying105
  have M0 := Aside0.mk ((Mem.start w).allocAt rfl #[.int .i64 15, .int .i64 ia, .int .i64 ib] 76)
  have z0 := M0.out.box (.head _)
  go_enter Try.func101, Try.ntmps101
  go_wp2_with fail
  refine (impl_takesAcc.calls 15 false _ (by unfold impl_takesAcc.f; simp)).mono ?_; rintro e w1 ⟨rfl, ⟨⟨n0, rfl⟩⟩⟩
  have M0 := Aside0.mk (M0.out.draw n0); clear z0
  generalize World.drewN (World.alloc w (.cells #[.int .i64 15, .int .i64 ia, .int .i64 ib] 76)) n0 = wq at M0 ⊢
  have z0 := M0.out.box (.head _)
  have y0 := pw_cell_below M0.out.below F0.out; have y1 := pw_cell_below M0.out.below F1.out; have y2 := pw_cell_below M0.out.below F2.out; have y3 := pw_cell_below M0.out.below F3.out; have y4 := pw_cell_below M0.out.below F4.out; have y5 := pw_cell_below M0.out.below F5.out
  obtain ⟨q, rfl⟩ : ∃ q : Nat, ia = q := ⟨ia.toNat, by omega⟩
  go_wp2_with fail
  have C := cCapsAre x j s gs gx fa c0 A1 c1 AR cR _ y0 y1 (Kd.C_below HR.out M0.out.below) hl y2 y3 (Kd.C_below G0.out M0.out.below) HJ.out hx (HFE.out ▸ hf) q
  rw [← HFE.out] at C
  refine C.mono ?_; clear C; rintro e w2 ⟨rfl, hb⟩
  have M2 := Aside0.mk (M0.out.step hb); clear hb M0 z0; clear y0 y1 y2 y3 y4 y5
  have HE := Aside0.mk (show mayB x f ⟨15, (q : Int), ib⟩ s = capsB x f s q from by unfold mayB capsB; simp)
  go_wp2
  go_ret
  exact ⟨by rw [HE.out]; rfl, M2.out.below⟩
set_option maxHeartbeats 8000000 in
set_option maxRecDepth 100000 in
theorem want16 : WantAt 16 := by
  refine want_at 16 ?_
  rintro x j s gs gx fa c0 A1 c1 AR cR w ia ib f A2 c2 A3 c3 ⟨HFE, G0, HR, HJ, F0, F1, F2, F3, F4, F5, hl, hx, ha, hb, hf⟩
  have hu := Try.underlying37; have hu1 := Try.underlying34; have hu2 := Try.underlying73; have hu3 := Try.underlying76; have hu4 := Try.underlying31; have hu5 := Try.underlying69; have hu6 := Try.underlying105
  have M0 := Aside0.mk ((Mem.start w).allocAt rfl #[.int .i64 16, .int .i64 ia, .int .i64 ib] 76)
  have z0 := M0.out.box (.head _)
  go_enter Try.func101, Try.ntmps101
  go_wp2_with fail
  refine (impl_takesAcc.calls 16 false _ (by unfold impl_takesAcc.f; simp)).mono ?_; rintro e w1 ⟨rfl, ⟨⟨n0, rfl⟩⟩⟩
  have M0 := Aside0.mk (M0.out.draw n0); clear z0
  generalize World.drewN (World.alloc w (.cells #[.int .i64 16, .int .i64 ia, .int .i64 ib] 76)) n0 = wq at M0 ⊢
  have z0 := M0.out.box (.head _)
  have y0 := pw_cell_below M0.out.below F0.out; have y1 := pw_cell_below M0.out.below F1.out; have y2 := pw_cell_below M0.out.below F2.out; have y3 := pw_cell_below M0.out.below F3.out; have y4 := pw_cell_below M0.out.below F4.out; have y5 := pw_cell_below M0.out.below F5.out
  have i8 : IntKind.i64.wrap (ia + ib) = ia + ib := IntWalk.i64_in _ (by omega)
  have i9 : wrap64 (ia + ib) = ia + ib := wrap64_id (by omega) (by omega)
  go_upto_region 27 with fail
  clear z0; clear y0 y1 y2 y3 y4 y5
  go_loopw [9] (fun v wx => ∃ k : Nat, v = .int .i64 (ia + (k : Int)) ∧ k ≤ ib.toNat + 1 ∧ argsTo s ia k = true ∧ Aside0 (Mem w wx [Hold.box w.heap.size #[.int .i64 16, .int .i64 ia, .int .i64 ib] 76])) (fun v _ => ib.toNat + 1 - ((intOf v) - ia).toNat)
  case atStart => exact ⟨0, by simp, by omega, rfl, M0⟩
  case round =>
  clear M0
  obtain ⟨k, rfl, hk, hA, M1⟩ := hrel
  have z0 := M1.out.box (.head _)
  have y1 := pw_cell_below M1.out.below F1.out
  have i6 : IntKind.i64.wrap (ia + (k : Int)) = ia + (k : Int) := IntWalk.i64_in _ (by omega)
  have i7 : wrap64 (ia + (k : Int) + 1) = ia + ((k + 1 : Nat) : Int) := by rw [wrap64_id (by omega) (by omega)]; omega
  by_cases hlt : k ≤ ib.toNat
  · have hle : ia + (k : Int) ≤ ia + ib := by omega
    go_wp2_with fail
    refine (cIsReg gs s (ia + (k : Int)) 1 AR cR _ y1 (Kd.C_below HR.out M1.out.below) hl).mono ?_; rintro e w2 ⟨rfl, hb⟩
    have M2 := Aside0.mk (M1.out.step hb); clear hb M1 z0 y1
    rcases Bool.eq_false_or_eq_true (regIs s (ia + (k : Int)) 1) with hq | hq
    · rw [hq]
      go_wp2
      go_roundw
      case measure => simp [intOf]; omega
      case rel => exact ⟨k + 1, by first | go_num | (rw [i7]), by omega, by show (argsTo s ia k && regIs s (ia + (k : Int)) 1) = true; rw [hA, hq]; rfl, M2⟩
    · rw [hq]
      go_wp2
      go_ret
      exact ⟨by rw [show mayB x f ⟨16, ia, ib⟩ s = false from by unfold mayB; simp; exact args_no s ia hq (by omega)]; rfl, M2.out.below⟩
  · have hle : ¬ ia + (k : Int) ≤ ia + ib := by omega
    obtain rfl : k = ib.toNat + 1 := by omega
    go_wp2
    go_ret
    exact ⟨by rw [show mayB x f ⟨16, ia, ib⟩ s = true from by unfold mayB; simp; exact hA]; rfl, M1.out.below⟩
theorem cWants (x : Image) (j : Nat) (s : State) (gs gx : Nat) (fa : Addr) (c0 : Nat) (A1 : Option Addr) (c1 : Nat) (AR : Option Addr) (cR : Nat) (w : World) (hs0 : w.cell? ⟨gs, 0, none⟩ = some (.int .i64 s.acc)) (hs1 : w.cell? ⟨gs, 1, none⟩ = some (.slice AR s.regs.length cR)) (hr : (Kd.int .i64).C w AR s.regs.length s.regs) (hl : s.regs.length ≤ 1048576) (hx0 : w.cell? ⟨gx, 0, none⟩ = some (.slice (some fa) x.funcs.length c0)) (hx1 : w.cell? ⟨gx, 1, none⟩ = some (.slice A1 x.consts.length c1)) (g0 : kFuncI.C w (some fa) x.funcs.length x.funcs) (hj : j < x.funcs.length) (hx : x.funcs.length ≤ 1048576) (hf : (el zFunc x.funcs j).caps.length ≤ 1048576) (i : Ins) (ho : 1 ≤ i.op ∧ i.op ≤ 19) (ha : 0 ≤ i.a ∧ i.a ≤ 300) (hb : 0 ≤ i.b ∧ i.b ≤ 300) :
    Calls Try.prog 101 #[.pointer (some ⟨gs, 0, none⟩), .pointer (some ⟨gx, 0, none⟩), .pointer (some (fa.add (j * 5))), .agg #[.int .i64 i.op, .int .i64 i.a, .int .i64 i.b]] w fun e w' => e = .returned (.bool (mayB x (el zFunc x.funcs j) i s)) ∧ Below w.heap.size w w' := by
  obtain ⟨o, a, b⟩ := i
  have h : o = 1 ∨ o = 2 ∨ o = 3 ∨ o = 4 ∨ o = 5 ∨ o = 6 ∨ o = 7 ∨ o = 8 ∨ o = 9 ∨ o = 10 ∨ o = 11 ∨ o = 12 ∨ o = 13 ∨ o = 14 ∨ o = 15 ∨ o = 16 ∨ o = 17 ∨ o = 18 ∨ o = 19 := by have h := ho; simp only at h; omega
  rcases h with rfl | rfl | rfl | rfl | rfl | rfl | rfl | rfl | rfl | rfl | rfl | rfl | rfl | rfl | rfl | rfl | rfl | rfl | rfl
  · exact want1 x j s gs gx fa c0 A1 c1 AR cR w hs0 hs1 hr hl hx0 hx1 g0 hj hx hf a b ha hb
  · exact want2 x j s gs gx fa c0 A1 c1 AR cR w hs0 hs1 hr hl hx0 hx1 g0 hj hx hf a b ha hb
  · exact want3 x j s gs gx fa c0 A1 c1 AR cR w hs0 hs1 hr hl hx0 hx1 g0 hj hx hf a b ha hb
  · exact want4 x j s gs gx fa c0 A1 c1 AR cR w hs0 hs1 hr hl hx0 hx1 g0 hj hx hf a b ha hb
  · exact want5 x j s gs gx fa c0 A1 c1 AR cR w hs0 hs1 hr hl hx0 hx1 g0 hj hx hf a b ha hb
  · exact want6 x j s gs gx fa c0 A1 c1 AR cR w hs0 hs1 hr hl hx0 hx1 g0 hj hx hf a b ha hb
  · exact want7 x j s gs gx fa c0 A1 c1 AR cR w hs0 hs1 hr hl hx0 hx1 g0 hj hx hf a b ha hb
  · exact want8 x j s gs gx fa c0 A1 c1 AR cR w hs0 hs1 hr hl hx0 hx1 g0 hj hx hf a b ha hb
  · exact want9 x j s gs gx fa c0 A1 c1 AR cR w hs0 hs1 hr hl hx0 hx1 g0 hj hx hf a b ha hb
  · exact want10 x j s gs gx fa c0 A1 c1 AR cR w hs0 hs1 hr hl hx0 hx1 g0 hj hx hf a b ha hb
  · exact want11 x j s gs gx fa c0 A1 c1 AR cR w hs0 hs1 hr hl hx0 hx1 g0 hj hx hf a b ha hb
  · exact want12 x j s gs gx fa c0 A1 c1 AR cR w hs0 hs1 hr hl hx0 hx1 g0 hj hx hf a b ha hb
  · exact want13 x j s gs gx fa c0 A1 c1 AR cR w hs0 hs1 hr hl hx0 hx1 g0 hj hx hf a b ha hb
  · exact want14 x j s gs gx fa c0 A1 c1 AR cR w hs0 hs1 hr hl hx0 hx1 g0 hj hx hf a b ha hb
  · exact want15 x j s gs gx fa c0 A1 c1 AR cR w hs0 hs1 hr hl hx0 hx1 g0 hj hx hf a b ha hb
  · exact want16 x j s gs gx fa c0 A1 c1 AR cR w hs0 hs1 hr hl hx0 hx1 g0 hj hx hf a b ha hb
  · exact want17 x j s gs gx fa c0 A1 c1 AR cR w hs0 hs1 hr hl hx0 hx1 g0 hj hx hf a b ha hb
  · exact want18 x j s gs gx fa c0 A1 c1 AR cR w hs0 hs1 hr hl hx0 hx1 g0 hj hx hf a b ha hb
  · exact want19 x j s gs gx fa c0 A1 c1 AR cR w hs0 hs1 hr hl hx0 hx1 g0 hj hx hf a b ha hb
end Go.Proofs.Ytcbaokflimdjnaa.Flow
end
section
namespace Go.Proofs.Ytcbaokflimdjnaa.Flow
open Go.RowKit Go.Proofs.YtcbaokflimdjnaaW.PrintWords Go.Proofs.YtcbaokflimdjnaaW.PrintLast Go.Proofs.Ytcbaokflimdjnaa.Steps Go.Proofs.YtcbaokflimdjnaaW.PrintMore Go.Proofs.Ytcbaokflimdjnaa.Law Go.Proofs.Ytcbaokflimdjnaa Go.Proofs.Ytcbaokflimdjnaa.Num Go.Proofs.Ytcbaokflimdjnaa.QFnExactVerify
set_option linter.unusedVariables false
set_option linter.unusedSimpArgs false
set_option autoImplicit false
/-- A row is apart from a box of another type. -/
theorem R_off {α : Type} {d : Kd α} {e : TypeId} {W : World} {base : Nat} {ok : Nat → Prop} {v : Value} {xs : List α} {g : Nat} {t : TypeId} {cells : Array Value} (h : d.R e W base ok v xs) (hb : W.heap[g]? = some (.cells cells t (0, 0))) (ht : ∀ q ∈ e :: d.E, q ≠ t) : d.R e W base (fun k => k ≠ g) v xs :=
  Kd.R_mono (Kd.R_bound h) (fun k hk hkg => by
    obtain ⟨_, _, _, q, hq, c, hc⟩ := hk
    subst hkg
    rw [hb] at hc
    injection hc with hc
    injection hc with _ hc
    exact ht q hq hc.symm)
def afterS.T1 : Bool × List (List Nat × List Nat) := (true, [([], []), ([0], [0]), ([], []), ([], []), ([3], [3]), ([2, 4], [2, 4]), ([1, 5], [1, 5]), ([], []), ([7, 6, 5, 0, 1, 2, 3, 4, 5, 6, 7], [6, 7])])
def afterS.B1 : List Nat := [0, 1, 0, 0, 8, 28, 63, 0, 255]
theorem afterS.tab1 : rtab .any (opsOf Try.f55 1) = afterS.T1 := by kernel_rfl
theorem afterS.bits1 : waitsOk afterS.T1.2 afterS.B1 = true := by kernel_rfl
set_option maxHeartbeats 8000000 in
set_option maxRecDepth 100000 in
theorem cAfter (i : Ins) (s : State) (cs : List Value) (w : World) (hk : kStateI.K w s cs) (ho : 1 ≤ i.op ∧ i.op ≤ 19) (ha : 0 ≤ i.a) (hr : i.op = 3 ∨ i.op = 4 → i.a < (s.regs.length : Int)) (hl : s.regs.length ≤ 1048576) :
    Calls Try.prog 55 #[.agg #[.int .i64 i.op, .int .i64 i.a, .int .i64 i.b], .agg ⟨cs⟩] w fun e w' => ∃ ds, e = .returned (.agg ⟨ds⟩) ∧ kStateI.M w' w.heap.size (fun _ => True) (afterS i s) ds ∧ Below w.heap.size w w' := by
  obtain ⟨AR, cR, rfl, hcR, hrr⟩ := kStateI_open hk
  have HR := Aside0.mk hrr; clear hrr hk
  have hu := Try.underlying31; have hu1 := Try.underlying26; have hu3 := Try.underlying76
  have M0 := Aside0.mk ((((Mem.start w).allocAt rfl #[.int .i64 i.op, .int .i64 i.a, .int .i64 i.b] 76).allocAt (g := w.heap.size + 1) (by simp) #[.int .i64 s.acc, .slice AR s.regs.length cR] 31).allocAt (g := w.heap.size + 2) (by simp) #[.int .i64 0, .slice none 0 0] 31)
  have z0 := M0.out.box (.tail _ (.tail _ (.head _)))
  go_enter Try.func55, Try.ntmps55
  go_upto_region 1 with fail
  clear z0
  generalize hwq : ((w.alloc (.cells #[.int .i64 i.op, .int .i64 i.a, .int .i64 i.b] 76)).alloc (.cells #[.int .i64 s.acc, .slice AR s.regs.length cR] 31)).alloc (.cells #[.int .i64 0, .slice none 0 0] 31) = wq at M0 ⊢
  have hsz : wq.heap.size = w.heap.size + 3 := by rw [← hwq]; simp
  clear hwq
  go_cut [5] (fun u wx => ∃ (g : Nat) (A : Option Addr) (y : Nat) (W : World), u = .pointer (some ⟨g, 0, none⟩) ∧ Aside0 (W = wx) ∧ Aside0 (Mem w W [Hold.box (w.heap.size + 2) #[.int .i64 0, .slice none 0 0] 31, Hold.box (w.heap.size + 1) #[.int .i64 s.acc, .slice AR s.regs.length cR] 31, Hold.box w.heap.size #[.int .i64 i.op, .int .i64 i.a, .int .i64 i.b] 76]) ∧ Aside0 (W.heap[g]? = some (.cells #[.int .i64 s.acc, .slice A s.regs.length y] 31 (0, 0))) ∧ Aside0 (w.heap.size + 3 ≤ g) ∧ Aside0 ((Kd.int .i64).R 3 W (w.heap.size + 3) (fun k => k ≠ g) (.slice A s.regs.length y) s.regs))
  case first =>
    have MD := Aside0.mk M0.out.drew; have HS3 := Aside0.mk (show wq.drew.heap.size = w.heap.size + 3 from hsz)
    clear M0 hsz
    refine sz 9 (fun W => W.cell? ⟨w.heap.size + 1, 0, none⟩ = some (.int .i64 s.acc) ∧ W.cell? ⟨w.heap.size + 1, 1, none⟩ = some (.slice AR s.regs.length cR)) [8] afterS.tab1 afterS.bits1 ⟨(MD.out.box (.tail _ (.head _)) 0).trans rfl, (MD.out.box (.tail _ (.head _)) 1).trans rfl⟩ (fun HT_ HW_ hHeld => ?_)
    generalize wq.drew = wd at MD HS3 hHeld ⊢
    have CD := Aside0.mk (Below.refl wd.heap.size wd)
    refine pz 0 6 ?_; refine pz 3 9 ?_; refine tz 1 7 ?_; refine tz 4 10 ?_
    refine twz 2 7 (some 8) (some 5) (fun K hK => ?_) (fun K hK => ?_)
    · skip
      refine Kd.R_lit_step (Kd.int .i64) (w0 := wd) wd.heap.size 3 ?hg (N := 8) ?hd (xs := ([] : List Int)) (inner := []) (ok := fun _ => True) (okp := fun _ => True) ?hr ?hp (fun _ hk => hk) trivial CD.out CD.out.size (by simp) ?_; (case hd => rfl); (case hg => rfl); (case hr => first | (go_simp; done) | (go_simp; rfl)); (case hp => exact (Reps.none _ _))
      intro v5 w5 ho hb hg_ hnew_; clear hnew_
      have HO := Aside0.mk ho; have CL := Aside0.mk hb; have ML := Aside0.mk (MD.out.step hb)
      clear ho hb hg_
      refine hK.out _ _ ⟨(ML.out.box (.tail _ (.head _)) 0).trans rfl, (ML.out.box (.tail _ (.head _)) 1).trans rfl⟩ (fun hHeld => ?_); clear hK K; refine kz (some 8) ?_
      refine twz 5 7 (some 11) (some 5) (fun K hK => ?_) (fun K hK => ?_)
      · skip
        refine Kd.R_append_rows_step (Kd.int .i64) (w0 := wd) wd.heap.size (by rfl) (.tmp 8) (.tmp 10) 26 3 (.int .i64 0) 8 rfl Try.underlying26 info3 rfl (by decide) (by omega) v5 [] s.regs _ _ _ (fun _ => True) (fun _ => False) rfl rfl ?aO ?aR (fun _ _ h => h) (fun _ h => h.elim) ?aF ?aB ?aS ?aL ?_
        (case aR => exact Kd.C_below (Kd.C_below HR.out MD.out.below) CL.out)
        (case aO => exact HO.out)
        (case aF => exact fun _ _ => trivial)
        (case aB => exact CL.out)
        (case aS => exact CL.out.size)
        (case aL => simp; omega)
        intro v6 w6 ho hb hg_ hat_; clear hat_
        rw [List.nil_append] at ho
        obtain ⟨A6, y6, rfl⟩ := Kd.R_slice ho
        have HA := Aside0.mk ho; have CA := Aside0.mk hb; have MA := Aside0.mk (MD.out.step hb)
        clear ho hb hg_
        refine hK.out _ _ ⟨(MA.out.box (.tail _ (.head _)) 0).trans rfl, (MA.out.box (.tail _ (.head _)) 1).trans rfl⟩ (fun hHeld => ?_); clear hK K; refine kz (some 11) ?_
        refine pz 6 12 ?_
        refine ez 7 (some 5) (fun K hK => ?_)
        refine box_step ?hg (N := 5) ?hd (cs := #[.int .i64 0, .slice none 0 0]) (t := 31) ?hr ?_; (case hd => rfl); (case hg => rfl); (case hr => first | (go_simp; done) | (go_simp; rfl))
        intro g5 hg w7 hbx hbb
        have CB := Aside0.mk (below_step CA.out hbb); have MB := Aside0.mk (MD.out.step CB.out); have KB := Aside0.mk hbx; have HG := Aside0.mk (show w.heap.size + 3 ≤ g5 by have h1 := CA.out.size; have h2 := HS3.out; omega)
        have HB := Aside0.mk (Kd.R_below HA.out hbb)
        clear hg hbx hbb
        refine hK.out _ _ ⟨(MB.out.box (.tail _ (.head _)) 0).trans rfl, (MB.out.box (.tail _ (.head _)) 1).trans rfl⟩ (fun hHeld => ?_); clear hK K; refine kz (some 5) ?_
        refine lz 8 none (fun K hK => ?_)
        have b0 := fun o => blk_cell KB.out o; have b1 := fun o => blk_frozen KB.out o
        refine skip_ (w1 := ?_) (by rfl) rfl ?_ ?_
        rotate_left
        · go_simp
          rfl
        clear b0 b1
        refine hK.out _ _ ?_; clear hK K
        refine dz ?_
        clear hHeld
        have hg := HG.out; have hs := HS3.out
        have hw : wd.heap.size ≤ g5 := by omega
        have RR := Kd.R_far (Kd.R_far (R_off (Kd.R_lower HB.out (Nat.le_of_eq hs.symm)) KB.out (by decide)) (fun _ h => h) (p := ⟨g5, 0, none⟩) (.int .i64 s.acc)) (fun _ h => h) (p := ⟨g5, 1, none⟩) (.slice A6 s.regs.length y6)
        have K5 := blk_put (blk_put KB.out 0 (.int .i64 s.acc) rfl) 1 (.slice A6 s.regs.length y6) rfl
        have M5 := MD.out.step (below_set (g := g5) (j := 1) (v := .slice A6 s.regs.length y6) (below_set (g := g5) (j := 0) (v := .int .i64 s.acc) CB.out hw) hw)
        try go_wp2_with fail
        go_meet
        exact ⟨g5, A6, y6, _, rfl, ⟨rfl⟩, ⟨M5⟩, ⟨K5⟩, HG, ⟨RR⟩⟩
      · skip
        refine box_step ?hg (N := 5) ?hd (cs := #[.int .i64 0, .slice none 0 0]) (t := 31) ?hr ?_; (case hd => rfl); (case hg => rfl); (case hr => first | (go_simp; done) | (go_simp; rfl))
        intro g5 hg w7 hbx hbb
        have CB := Aside0.mk (below_step CL.out hbb); have MB := Aside0.mk (MD.out.step CB.out); have KB := Aside0.mk hbx; have HG := Aside0.mk (show w.heap.size + 3 ≤ g5 by have h1 := CL.out.size; have h2 := HS3.out; omega)
        have HB := Aside0.mk (Kd.R_below HO.out hbb)
        clear hg hbx hbb
        refine hK.out _ _ ⟨(MB.out.box (.tail _ (.head _)) 0).trans rfl, (MB.out.box (.tail _ (.head _)) 1).trans rfl⟩ (fun hHeld => ?_); clear hK K; refine kz (some 5) ?_
        refine ez 5 (some 11) (fun K hK => ?_)
        refine Kd.R_append_rows_step (Kd.int .i64) (w0 := wd) wd.heap.size (by rfl) (.tmp 8) (.tmp 10) 26 3 (.int .i64 0) 8 rfl Try.underlying26 info3 rfl (by decide) (by omega) v5 [] s.regs _ _ _ (fun _ => True) (fun _ => False) rfl rfl ?aO ?aR (fun _ _ h => h) (fun _ h => h.elim) ?aF ?aB ?aS ?aL ?_
        (case aR => exact Kd.C_below (Kd.C_below HR.out MD.out.below) CB.out)
        (case aO => exact HB.out)
        (case aF => exact fun _ _ => trivial)
        (case aB => exact CB.out)
        (case aS => exact CB.out.size)
        (case aL => simp; omega)
        intro v6 w6 ho hb hg_ hat_; clear hat_
        rw [List.nil_append] at ho
        obtain ⟨A6, y6, rfl⟩ := Kd.R_slice ho
        have HA := Aside0.mk ho; have CA := Aside0.mk hb; have MA := Aside0.mk (MD.out.step hb)
        have KA := Aside0.mk (blk_grown KB.out hg_ (Kd.R_ne HB.out KB.out (by decide)))
        clear ho hb hg_
        refine hK.out _ _ ⟨(MA.out.box (.tail _ (.head _)) 0).trans rfl, (MA.out.box (.tail _ (.head _)) 1).trans rfl⟩ (fun hHeld => ?_); clear hK K; refine kz (some 11) ?_
        refine pz 6 12 ?_
        refine lz 8 none (fun K hK => ?_)
        have b0 := fun o => blk_cell KA.out o; have b1 := fun o => blk_frozen KA.out o
        refine skip_ (w1 := ?_) (by rfl) rfl ?_ ?_
        rotate_left
        · go_simp
          rfl
        clear b0 b1
        refine hK.out _ _ ?_; clear hK K
        refine dz ?_
        clear hHeld
        have hg := HG.out; have hs := HS3.out
        have hw : wd.heap.size ≤ g5 := by omega
        have RR := Kd.R_far (Kd.R_far (R_off (Kd.R_lower HA.out (Nat.le_of_eq hs.symm)) KA.out (by decide)) (fun _ h => h) (p := ⟨g5, 0, none⟩) (.int .i64 s.acc)) (fun _ h => h) (p := ⟨g5, 1, none⟩) (.slice A6 s.regs.length y6)
        have K5 := blk_put (blk_put KA.out 0 (.int .i64 s.acc) rfl) 1 (.slice A6 s.regs.length y6) rfl
        have M5 := MD.out.step (below_set (g := g5) (j := 1) (v := .slice A6 s.regs.length y6) (below_set (g := g5) (j := 0) (v := .int .i64 s.acc) CA.out hw) hw)
        try go_wp2_with fail
        go_meet
        exact ⟨g5, A6, y6, _, rfl, ⟨rfl⟩, ⟨M5⟩, ⟨K5⟩, HG, ⟨RR⟩⟩
    · skip
      refine box_step ?hg (N := 5) ?hd (cs := #[.int .i64 0, .slice none 0 0]) (t := 31) ?hr ?_; (case hd => rfl); (case hg => rfl); (case hr => first | (go_simp; done) | (go_simp; rfl))
      intro g5 hg w7 hbx hbb
      have CB := Aside0.mk (below_step CD.out hbb); have MB := Aside0.mk (MD.out.step CB.out); have KB := Aside0.mk hbx; have HG := Aside0.mk (show w.heap.size + 3 ≤ g5 by have h1 := CD.out.size; have h2 := HS3.out; omega)
      clear hg hbx hbb
      refine hK.out _ _ ⟨(MB.out.box (.tail _ (.head _)) 0).trans rfl, (MB.out.box (.tail _ (.head _)) 1).trans rfl⟩ (fun hHeld => ?_); clear hK K; refine kz (some 5) ?_
      refine ez 2 (some 8) (fun K hK => ?_)
      refine Kd.R_lit_step (Kd.int .i64) (w0 := wd) wd.heap.size 3 ?hg (N := 8) ?hd (xs := ([] : List Int)) (inner := []) (ok := fun _ => True) (okp := fun _ => True) ?hr ?hp (fun _ hk => hk) trivial CB.out CB.out.size (by simp) ?_; (case hd => rfl); (case hg => rfl); (case hr => first | (go_simp; done) | (go_simp; rfl)); (case hp => exact (Reps.none _ _))
      intro v5 w5 ho hb hg_ hnew_; clear hnew_
      have HO := Aside0.mk ho; have CL := Aside0.mk hb; have ML := Aside0.mk (MD.out.step hb)
      have KL := Aside0.mk (blk_grown KB.out hg_ (by simp))
      clear ho hb hg_
      refine hK.out _ _ ⟨(ML.out.box (.tail _ (.head _)) 0).trans rfl, (ML.out.box (.tail _ (.head _)) 1).trans rfl⟩ (fun hHeld => ?_); clear hK K; refine kz (some 8) ?_
      refine ez 5 (some 11) (fun K hK => ?_)
      refine Kd.R_append_rows_step (Kd.int .i64) (w0 := wd) wd.heap.size (by rfl) (.tmp 8) (.tmp 10) 26 3 (.int .i64 0) 8 rfl Try.underlying26 info3 rfl (by decide) (by omega) v5 [] s.regs _ _ _ (fun _ => True) (fun _ => False) rfl rfl ?aO ?aR (fun _ _ h => h) (fun _ h => h.elim) ?aF ?aB ?aS ?aL ?_
      (case aR => exact Kd.C_below (Kd.C_below HR.out MD.out.below) CL.out)
      (case aO => exact HO.out)
      (case aF => exact fun _ _ => trivial)
      (case aB => exact CL.out)
      (case aS => exact CL.out.size)
      (case aL => simp; omega)
      intro v6 w6 ho hb hg_ hat_; clear hat_
      rw [List.nil_append] at ho
      obtain ⟨A6, y6, rfl⟩ := Kd.R_slice ho
      have HA := Aside0.mk ho; have CA := Aside0.mk hb; have MA := Aside0.mk (MD.out.step hb)
      have KA := Aside0.mk (blk_grown KL.out hg_ (Kd.R_ne HO.out KL.out (by decide)))
      clear ho hb hg_
      refine hK.out _ _ ⟨(MA.out.box (.tail _ (.head _)) 0).trans rfl, (MA.out.box (.tail _ (.head _)) 1).trans rfl⟩ (fun hHeld => ?_); clear hK K; refine kz (some 11) ?_
      refine pz 6 12 ?_
      refine lz 8 none (fun K hK => ?_)
      have b0 := fun o => blk_cell KA.out o; have b1 := fun o => blk_frozen KA.out o
      refine skip_ (w1 := ?_) (by rfl) rfl ?_ ?_
      rotate_left
      · go_simp
        rfl
      clear b0 b1
      refine hK.out _ _ ?_; clear hK K
      refine dz ?_
      clear hHeld
      have hg := HG.out; have hs := HS3.out
      have hw : wd.heap.size ≤ g5 := by omega
      have RR := Kd.R_far (Kd.R_far (R_off (Kd.R_lower HA.out (Nat.le_of_eq hs.symm)) KA.out (by decide)) (fun _ h => h) (p := ⟨g5, 0, none⟩) (.int .i64 s.acc)) (fun _ h => h) (p := ⟨g5, 1, none⟩) (.slice A6 s.regs.length y6)
      have K5 := blk_put (blk_put KA.out 0 (.int .i64 s.acc) rfl) 1 (.slice A6 s.regs.length y6) rfl
      have M5 := MD.out.step (below_set (g := g5) (j := 1) (v := .slice A6 s.regs.length y6) (below_set (g := g5) (j := 0) (v := .int .i64 s.acc) CA.out hw) hw)
      try go_wp2_with fail
      go_meet
      exact ⟨g5, A6, y6, _, rfl, ⟨rfl⟩, ⟨M5⟩, ⟨K5⟩, HG, ⟨RR⟩⟩
  case rest =>
  obtain ⟨g, A, y, W, rfl, HW, M1, K5, HG, R5⟩ := hcut
  have hw3 := HW.out; subst hw3; clear HW M0
  have z0 := M1.out.box (.tail _ (.tail _ (.head _))); have z2 := M1.out.box (.head _); have f2 := M1.out.free (.head _); have z5 := fun o => blk_cell K5.out o; have f5 := fun o => blk_frozen K5.out o
  have hd1 : ¬ (w.heap.size + 1 + 1 = g) := by have := HG.out; omega
  have hd2 : ¬ (g = w.heap.size + 1 + 1) := by have := HG.out; omega
  have hd3 : ¬ (w.heap.size + 2 = g) := by have := HG.out; omega
  have hd4 : ¬ (g = w.heap.size + 2) := by have := HG.out; omega
  go_upto_region 3 with fail
  rcases Bool.eq_false_or_eq_true (givesB i.op) with hgv | hgv
  · have HA := Aside0.mk (show afterS i s = ⟨1, s.regs⟩ from by unfold afterS; rw [if_pos hgv])
    have hop : i.op = 1 ∨ i.op = 2 ∨ i.op = 5 ∨ i.op = 7 ∨ i.op = 9 ∨ i.op = 10 ∨ i.op = 11 ∨ i.op = 15 ∨ i.op = 16 := by simpa [givesB] using hgv
    clear hgv
    have K6 := blk_put K5.out 0 (.int .i64 1) rfl
    have R6 := Kd.R_far R5.out (fun _ h => h) (p := ⟨g, 0, none⟩) (.int .i64 1)
    have B6 := below_set (g := g) (j := 0) (v := .int .i64 1) M1.out.below (by have := HG.out; simp; omega)
    have H4 := (Below.heap_setCell W ⟨g, 0, none⟩ (.int .i64 1) (w.heap.size + 2) (by have := HG.out; simp; omega)).trans (M1.out.blk (.head _))
    have X6 := Aside0.mk R6; have X7 := Aside0.mk B6; have X8 := Aside0.mk H4; clear R6 B6 H4 K6
    rcases hop with hop | hop | hop | hop | hop | hop | hop | hop | hop <;> (
      have q1 := congrArg (fun z : Int => z == 1) hop; have q2 := congrArg (fun z : Int => z == 2) hop; have q5 := congrArg (fun z : Int => z == 5) hop; have q7 := congrArg (fun z : Int => z == 7) hop; have q9 := congrArg (fun z : Int => z == 9) hop; have q10 := congrArg (fun z : Int => z == 10) hop; have q11 := congrArg (fun z : Int => z == 11) hop; have q15 := congrArg (fun z : Int => z == 15) hop; have q16 := congrArg (fun z : Int => z == 16) hop
      simp only [Int.reduceBEq] at q1 q2 q5 q7 q9 q10 q11 q15 q16
      have K4b := blk_put (blk_put X8.out 0 (.int .i64 1) rfl) 1 (.slice A s.regs.length y) rfl
      have HB2 := below_set (g := w.heap.size + 2) (j := 1) (v := .slice A s.regs.length y) (below_set (g := w.heap.size + 2) (j := 0) (v := .int .i64 1) X7.out (by omega)) (by omega)
      have RF := Kd.R_far (Kd.R_far (Kd.R_mono (Kd.R_bound X6.out) (fun k hk => show k ≠ w.heap.size + 2 by have := hk.2.1; omega)) (fun _ h => h) (p := ⟨w.heap.size + 2, 0, none⟩) (.int .i64 1)) (fun _ h => h) (p := ⟨w.heap.size + 2, 1, none⟩) (.slice A s.regs.length y)
      have K4c := Aside0.mk K4b; have HB3 := Aside0.mk HB2; have RG := Aside0.mk (Kd.R_mono (Kd.R_lower RF (show w.heap.size ≤ w.heap.size + 3 by omega)) (ok' := fun _ => True) (fun _ _ => trivial)); clear K4b HB2 RF
      go_wp2
      refine bodyPost_ret (results_cell_row rfl _ _ (w.heap.size + 2) 31 #[.int .i64 1, .slice A s.regs.length y] (0, 0) _ rfl K4c.out hu rfl (by kernel_rfl)) rfl ?_
      refine ⟨_, rfl, ?_, HB3.out⟩
      rw [HA.out]
      exact kStateI_mkM _ _ _ ⟨1, s.regs⟩ RG.out)
  have hno : ¬ (i.op = 1 ∨ i.op = 2 ∨ i.op = 5 ∨ i.op = 7 ∨ i.op = 9 ∨ i.op = 10 ∨ i.op = 11 ∨ i.op = 15 ∨ i.op = 16) := by simpa [givesB] using hgv

  have q1 : (i.op == 1) = false := by simp; omega
  have q2 : (i.op == 2) = false := by simp; omega
  have q5 : (i.op == 5) = false := by simp; omega
  have q7 : (i.op == 7) = false := by simp; omega
  have q9 : (i.op == 9) = false := by simp; omega
  have q10 : (i.op == 10) = false := by simp; omega
  have q11 : (i.op == 11) = false := by simp; omega
  have q15 : (i.op == 15) = false := by simp; omega
  have q16 : (i.op == 16) = false := by simp; omega
  by_cases h3 : i.op = 3
  · have q3 : (i.op == 3) = true := by simp [h3]
    have HA := Aside0.mk (show afterS i s = ⟨s.acc, s.regs.set i.a.toNat 1⟩ from by unfold afterS givesB; rw [h3]; simp)
    have hlt := hr (by omega)
    obtain ⟨qa, hqa⟩ : ∃ qa : Nat, i.a = qa := ⟨i.a.toNat, by omega⟩
    have hql : qa < s.regs.length := by omega
    have hq0 : (0 : Int) ≤ (qa : Int) := by omega
    have hq1 : (qa : Int) < (s.regs.length : Int) := by omega
    obtain ⟨gq, cq, hgq, hgb, hgl, _⟩ := Kd.R_form R5.out (by omega)
    injection hgq with e1 e2 e3; subst e1; subst e3; clear e2
    obtain ⟨k0, k1⟩ := Kd.R_celln 0 R5.out (qa : Int) (by omega) (by omega)
    rw [Int.toNat_natCast] at k0 k1
    have hne : gq ≠ g := R5.out.1 gq (by simp [Value.ownBlock])
    obtain ⟨hp1, hp2⟩ := Kd.R_putg R5.out (qa : Int) 1
    rw [Int.toNat_natCast] at hp1 hp2
    have hwq : w.heap.size ≤ gq := by omega
    have hd5 : ¬ (w.heap.size + 1 + 1 = gq) := by omega
    have hd6 : ¬ (gq = w.heap.size + 1 + 1) := by omega
    have hd7 : ¬ (g = gq) := fun h => hne h.symm
    have hd8 : ¬ (gq = g) := hne
    have B6 := below_set (g := gq) (j := qa) (v := .int .i64 1) M1.out.below hwq
    have H4 := (Below.heap_setCell W ⟨gq, qa, none⟩ (.int .i64 1) (w.heap.size + 2) (by simp; omega)).trans (M1.out.blk (.head _))
    have X6 := Aside0.mk hp1; have X7 := Aside0.mk B6; have X8 := Aside0.mk H4; clear hp1 hp2 B6 H4
    rw [hqa] at z0 HA
    rw [Int.toNat_natCast] at HA
    have K4b := blk_put (blk_put X8.out 0 (.int .i64 s.acc) rfl) 1 (.slice (some ⟨gq, 0, none⟩) s.regs.length y) rfl
    have HB2 := below_set (g := w.heap.size + 2) (j := 1) (v := .slice (some ⟨gq, 0, none⟩) s.regs.length y) (below_set (g := w.heap.size + 2) (j := 0) (v := .int .i64 s.acc) X7.out (by omega)) (by omega)
    have RF := Kd.R_far (Kd.R_far (Kd.R_mono (Kd.R_bound X6.out) (fun k hk => show k ≠ w.heap.size + 2 by have := hk.2.1; omega)) (fun _ h => h) (p := ⟨w.heap.size + 2, 0, none⟩) (.int .i64 s.acc)) (fun _ h => h) (p := ⟨w.heap.size + 2, 1, none⟩) (.slice (some ⟨gq, 0, none⟩) s.regs.length y)
    have K4c := Aside0.mk K4b; have HB3 := Aside0.mk HB2; have RG := Aside0.mk (Kd.R_mono (Kd.R_lower RF (show w.heap.size ≤ w.heap.size + 3 by omega)) (ok' := fun _ => True) (fun _ _ => trivial)); clear K4b HB2 RF
    go_wp2
    refine bodyPost_ret (results_cell_row rfl _ _ (w.heap.size + 2) 31 #[.int .i64 s.acc, .slice (some ⟨gq, 0, none⟩) s.regs.length y] (0, 0) _ rfl K4c.out hu rfl (by kernel_rfl)) rfl ?_
    refine ⟨_, rfl, ?_, HB3.out⟩
    rw [HA.out]
    exact kStateI_mkM _ _ _ ⟨s.acc, s.regs.set qa 1⟩ RG.out
  by_cases h4 : i.op = 4
  · have q4 : (i.op == 4) = true := by simp [h4]
    have q3 : (i.op == 3) = false := by simp [h4]
    have HA := Aside0.mk (show afterS i s = ⟨s.acc, s.regs.set i.a.toNat 2⟩ from by unfold afterS givesB; rw [h4]; simp)
    have hlt := hr (by omega)
    obtain ⟨qa, hqa⟩ : ∃ qa : Nat, i.a = qa := ⟨i.a.toNat, by omega⟩
    have hql : qa < s.regs.length := by omega
    have hq0 : (0 : Int) ≤ (qa : Int) := by omega
    have hq1 : (qa : Int) < (s.regs.length : Int) := by omega
    obtain ⟨gq, cq, hgq, hgb, hgl, _⟩ := Kd.R_form R5.out (by omega)
    injection hgq with e1 e2 e3; subst e1; subst e3; clear e2
    obtain ⟨k0, k1⟩ := Kd.R_celln 0 R5.out (qa : Int) (by omega) (by omega)
    rw [Int.toNat_natCast] at k0 k1
    have hne : gq ≠ g := R5.out.1 gq (by simp [Value.ownBlock])
    obtain ⟨hp1, hp2⟩ := Kd.R_putg R5.out (qa : Int) 2
    rw [Int.toNat_natCast] at hp1 hp2
    have hwq : w.heap.size ≤ gq := by omega
    have hd5 : ¬ (w.heap.size + 1 + 1 = gq) := by omega
    have hd6 : ¬ (gq = w.heap.size + 1 + 1) := by omega
    have hd7 : ¬ (g = gq) := fun h => hne h.symm
    have hd8 : ¬ (gq = g) := hne
    have B6 := below_set (g := gq) (j := qa) (v := .int .i64 2) M1.out.below hwq
    have H4 := (Below.heap_setCell W ⟨gq, qa, none⟩ (.int .i64 2) (w.heap.size + 2) (by simp; omega)).trans (M1.out.blk (.head _))
    have X6 := Aside0.mk hp1; have X7 := Aside0.mk B6; have X8 := Aside0.mk H4; clear hp1 hp2 B6 H4
    rw [hqa] at z0 HA
    rw [Int.toNat_natCast] at HA
    have K4b := blk_put (blk_put X8.out 0 (.int .i64 s.acc) rfl) 1 (.slice (some ⟨gq, 0, none⟩) s.regs.length y) rfl
    have HB2 := below_set (g := w.heap.size + 2) (j := 1) (v := .slice (some ⟨gq, 0, none⟩) s.regs.length y) (below_set (g := w.heap.size + 2) (j := 0) (v := .int .i64 s.acc) X7.out (by omega)) (by omega)
    have RF := Kd.R_far (Kd.R_far (Kd.R_mono (Kd.R_bound X6.out) (fun k hk => show k ≠ w.heap.size + 2 by have := hk.2.1; omega)) (fun _ h => h) (p := ⟨w.heap.size + 2, 0, none⟩) (.int .i64 s.acc)) (fun _ h => h) (p := ⟨w.heap.size + 2, 1, none⟩) (.slice (some ⟨gq, 0, none⟩) s.regs.length y)
    have K4c := Aside0.mk K4b; have HB3 := Aside0.mk HB2; have RG := Aside0.mk (Kd.R_mono (Kd.R_lower RF (show w.heap.size ≤ w.heap.size + 3 by omega)) (ok' := fun _ => True) (fun _ _ => trivial)); clear K4b HB2 RF
    go_wp2
    refine bodyPost_ret (results_cell_row rfl _ _ (w.heap.size + 2) 31 #[.int .i64 s.acc, .slice (some ⟨gq, 0, none⟩) s.regs.length y] (0, 0) _ rfl K4c.out hu rfl (by kernel_rfl)) rfl ?_
    refine ⟨_, rfl, ?_, HB3.out⟩
    rw [HA.out]
    exact kStateI_mkM _ _ _ ⟨s.acc, s.regs.set qa 2⟩ RG.out
  have q3 : (i.op == 3) = false := by simp [h3]
  have q4 : (i.op == 4) = false := by simp [h4]
  have HA := Aside0.mk (show afterS i s = s from by unfold afterS; rw [if_neg (by rw [hgv]; decide), if_neg h3, if_neg h4])
  have X6 := R5; have X7 := Aside0.mk M1.out.below; have X8 := Aside0.mk (M1.out.blk (.head _))
  have K4b := blk_put (blk_put X8.out 0 (.int .i64 s.acc) rfl) 1 (.slice A s.regs.length y) rfl
  have HB2 := below_set (g := w.heap.size + 2) (j := 1) (v := .slice A s.regs.length y) (below_set (g := w.heap.size + 2) (j := 0) (v := .int .i64 s.acc) X7.out (by omega)) (by omega)
  have RF := Kd.R_far (Kd.R_far (Kd.R_mono (Kd.R_bound X6.out) (fun k hk => show k ≠ w.heap.size + 2 by have := hk.2.1; omega)) (fun _ h => h) (p := ⟨w.heap.size + 2, 0, none⟩) (.int .i64 s.acc)) (fun _ h => h) (p := ⟨w.heap.size + 2, 1, none⟩) (.slice A s.regs.length y)
  have K4c := Aside0.mk K4b; have HB3 := Aside0.mk HB2; have RG := Aside0.mk (Kd.R_mono (Kd.R_lower RF (show w.heap.size ≤ w.heap.size + 3 by omega)) (ok' := fun _ => True) (fun _ _ => trivial)); clear K4b HB2 RF
  go_wp2
  refine bodyPost_ret (results_cell_row rfl _ _ (w.heap.size + 2) 31 #[.int .i64 s.acc, .slice A s.regs.length y] (0, 0) _ rfl K4c.out hu rfl (by kernel_rfl)) rfl ?_
  refine ⟨_, rfl, ?_, HB3.out⟩
  rw [HA.out]
  exact kStateI_mkM _ _ _ ⟨s.acc, s.regs⟩ RG.out
end Go.Proofs.Ytcbaokflimdjnaa.Flow
end
section
namespace Go.Proofs.Ytcbaokflimdjnaa.QFnExactVerify
open Go.RowKit Go.Proofs.YtcbaokflimdjnaaW.PrintWords Go.Proofs.YtcbaokflimdjnaaW.PrintLast Go.Proofs.YtcbaokflimdjnaaW.PrintMore
attribute [local go_sem] max_two min_two max_three min_three max_four min_four run_field194_0 max2_mx min2_mn   -- for this text's walks alone
set_option linter.unusedVariables false
set_option linter.unusedSimpArgs false
/-- A state of type 31 at block g of W; what its slices lead to came in by w0. -/
def IsS31 (w0 W : World) (g : Nat) (f0 : Int) (f1 : List Int) : Prop := ∃ A1 c1, W.heap[g]? = some (.cells #[.int .i64 f0, .slice A1 f1.length c1] 31 (0, 0)) ∧ w0.heap.size ≤ g ∧ Kd.C (Kd.int .i64) w0 A1 f1.length f1
theorem IsS31.grown {w0 W : World} {g : Nat} {f0 : Int} {f1 : List Int} {W1 : World} {row : Option Nat} (h : IsS31 w0 W g f0 f1) (hw : W.grownBy W1 row) (hne : some g ≠ row) : IsS31 w0 W1 g f0 f1 := by
  obtain ⟨A1, c1, hb, hg, hr1⟩ := h
  exact ⟨A1, c1, blk_grown hb hw hne, hg, hr1⟩
theorem IsS31.kept {w0 W : World} {g : Nat} {f0 : Int} {f1 : List Int} {W1 : World} {S : Nat → Prop} (h : IsS31 w0 W g f0 f1) (hk : Kept W W1 S) (hne : ¬ S g) : IsS31 w0 W1 g f0 f1 := by
  obtain ⟨A1, c1, hb, hg, hr1⟩ := h
  exact ⟨A1, c1, blk_kept hb hk hne, hg, hr1⟩
theorem IsS31.below {w0 W : World} {g : Nat} {f0 : Int} {f1 : List Int} {W1 : World} (h : IsS31 w0 W g f0 f1) (hw : Below W.heap.size W W1) : IsS31 w0 W1 g f0 f1 := h.grown (grown_of_below hw none) (by simp)
theorem IsS31.alloc {w0 W : World} {g : Nat} {f0 : Int} {f1 : List Int} (h : IsS31 w0 W g f0 f1) (o : Obj) : IsS31 w0 (W.alloc o) g f0 f1 := h.below (below_alloc (Below.refl _ _) o)
theorem IsS31.drewN {w0 W : World} {g : Nat} {f0 : Int} {f1 : List Int} (h : IsS31 w0 W g f0 f1) (m : Nat) : IsS31 w0 (W.drewN m) g f0 f1 := h
theorem IsS31.drew {w0 W : World} {g : Nat} {f0 : Int} {f1 : List Int} (h : IsS31 w0 W g f0 f1) : IsS31 w0 W.drew g f0 f1 := h
theorem IsS31.at_ {w0 W : World} {g : Nat} {f0 : Int} {f1 : List Int} {w' : World} {m : Nat} (hq : W.drewN m = w') (h : IsS31 w0 W g f0 f1) : IsS31 w0 w' g f0 f1 := by subst hq; exact IsS31.drewN h m
theorem IsS31.apart {w0 W : World} {g : Nat} {f0 : Int} {f1 : List Int} {α : Type} {d : Kd α} {e : Nat} {base : Nat} {ok : Nat → Prop} {v : Value} {xs : List α} (h : IsS31 w0 W g f0 f1) (ho : d.R e W base ok v xs) (ht : ∀ q, q ∈ e :: d.E → q ≠ 31) : d.R e W base (fun k => ok k ∧ k ≠ g) v xs := by
  obtain ⟨A1, c1, hb, hg, hr1⟩ := h
  exact Kd.R_types ho hb ht
theorem IsS31.own_ne {w0 W : World} {g : Nat} {f0 : Int} {f1 : List Int} {α : Type} {d : Kd α} {e : Nat} {base : Nat} {ok : Nat → Prop} {v : Value} {xs : List α} (h : IsS31 w0 W g f0 f1) (ho : d.R e W base ok v xs) (ht : e ≠ 31) : some g ≠ v.ownBlock := by
  obtain ⟨A1, c1, hb, hg, hr1⟩ := h
  exact Kd.R_ne ho hb ht
theorem IsS31.ge {w0 W : World} {g : Nat} {f0 : Int} {f1 : List Int} (h : IsS31 w0 W g f0 f1) : w0.heap.size ≤ g := by
  obtain ⟨A1, c1, hb, hg, hr1⟩ := h
  exact hg
theorem cellS31_0 {W : World} {g : Nat} {A1 : Option Addr} {c1 : Nat} {f0 : Int} {f1 : List Int} (h : W.heap[g]? = some (.cells #[.int .i64 f0, .slice A1 f1.length c1] 31 (0, 0))) : W.cell? ⟨g, 0, none⟩ = some (.int .i64 f0) := (blk_cell h 0).trans rfl
theorem IsS31.set_0 {w0 W : World} {g : Nat} {f0 : Int} {f1 : List Int} (h : IsS31 w0 W g f0 f1) (x : Int) : IsS31 w0 (W.setCell ⟨g, 0, none⟩ (.int .i64 x)) g x f1 := by
  obtain ⟨A1, c1, hb, hg, hr1⟩ := h
  exact ⟨A1, c1, by simpa using blk_set hb 0 (.int .i64 x), hg, hr1⟩
theorem cellS31_1 {W : World} {g : Nat} {A1 : Option Addr} {c1 : Nat} {f0 : Int} {f1 : List Int} (h : W.heap[g]? = some (.cells #[.int .i64 f0, .slice A1 f1.length c1] 31 (0, 0))) : W.cell? ⟨g, 1, none⟩ = some (.slice A1 f1.length c1) := (blk_cell h 1).trans rfl
def impl_State_isReg.f (s0_0 : Int) (s0_1 : List Int) (a1 : Int) (a2 : Int) : Option (Bool × Int) := (impl_within.f a1 0 (wrap64 ((s0_1.length : Int) - 1))).bind fun t398 => (if t398 = true then (if 0 ≤ a1 then (if a1 < (s0_1.length : Int) then (some (((rd s0_1 a1) == a2), s0_0)) else (none)) else (none)) else (some (false, s0_0)))
set_option maxHeartbeats 8000000 in
set_option maxRecDepth 100000 in
theorem impl_State_isReg.calls (g : Nat) (s0_0 : Int) (s0_1 : List Int) (a1 : Int) (a2 : Int) (r1 : Bool) (r2 : Int) (w0 w : World) (hI : IsS31 w0 w g s0_0 s0_1) (hB : Below w0.heap.size w0 w) (h : impl_State_isReg.f s0_0 s0_1 a1 a2 = some (r1, r2)) :
    Calls Try.prog 137 #[.pointer (some ⟨g, 0, none⟩), .int .i64 a1, .int .i64 a2] w fun e w' => e = .returned (.bool r1) ∧ IsS31 w0 w' g r2 s0_1 ∧ Below w0.heap.size w0 w' ∧ KeepBut w w' g none := by
  have HI0 := Aside0.mk hI
  have HK := Aside0.mk (KeepBut.refl w g none)
  have HL := Aside0.mk hB.size
  clear hI
  have HW0 := Aside0.mk hB.size
  have HB := Aside0.mk hB
  clear hB
  have H : ((impl_within.f a1 0 (wrap64 ((s0_1.length : Int) - 1))).bind fun t398 => (if t398 = true then (if 0 ≤ a1 then (if a1 < (s0_1.length : Int) then (some (((rd s0_1 a1) == a2), s0_0)) else (none)) else (none)) else (some (false, s0_0)))) = some (r1, r2) := h
  clear h
  replace H := Option.bind_eq_some_iff.mp H
  obtain ⟨t398, A40, H⟩ := H
  replace H : (if t398 = true then (if 0 ≤ a1 then (if a1 < (s0_1.length : Int) then (some (((rd s0_1 a1) == a2), s0_0)) else (none)) else (none)) else (some (false, s0_0))) = some (r1, r2) := H
  have A4 := Aside0.mk A40
  clear A40
  by_cases c5 : t398 = true
  · subst c5
    have H1 : (if 0 ≤ a1 then (if a1 < (s0_1.length : Int) then (some (((rd s0_1 a1) == a2), s0_0)) else (none)) else (none)) = some (r1, r2) := by rw [if_pos rfl] at H; exact H
    clear H
    have H := H1
    clear H1
    by_cases c6 : 0 ≤ a1
    · rw [if_pos c6] at H
      have c6b0 : decide (0 ≤ a1) = true := decide_eq_true c6
      clear c6
      by_cases c7 : a1 < (s0_1.length : Int)
      · rw [if_pos c7] at H
        have c7b0 : decide (a1 < (s0_1.length : Int)) = true := decide_eq_true c7
        clear c7
        simp only [Option.some.injEq, Prod.mk.injEq] at H
        obtain ⟨rfl, rfl⟩ := H
        obtain ⟨ASz8_1, cSz8_1, HGz8, hgz8, HSz8_1⟩ := HI0.out
        have hcz8_0 := cellS31_0 HGz8
        have hcz8_1 := cellS31_1 HGz8
        have hfz8_0 := blk_frozen HGz8 0
        clear HGz8 hgz8
        go_enter Try.func137, Try.ntmps137
        go_wp2_with (first | ((with_reducible refine gate_callee (f := 60) rfl ?_); refine goesL_ (some 14) rfl rfl Try.func60 (by kernel_rfl) rfl #[.int .i64 a1, .int .i64 0, .int .i64 (wrap64 ((s0_1.length : Int) - 1))] rfl (by (try simp only [List.map_toArray, List.map_cons, List.map_nil]); first | done | rfl | (simp only [List.length_drop, List.length_take]; rfl)) ?_; (with_reducible refine (impl_within.calls a1 0 (wrap64 ((s0_1.length : Int) - 1)) true _ A4.out).mono ?_); rintro e w' ⟨rfl, ⟨nd, rfl⟩⟩; refine ⟨_, rfl, ?_⟩; have p399 : 0 ≤ (a1 : Int) := of_decide_eq_true (by first | (with_reducible assumption) | assumption); have q399 : a1 < (s0_1.length : Int) := of_decide_eq_true (by first | (with_reducible assumption) | assumption); obtain ⟨ad399, e399, hx399_0⟩ := Kd.at_int HSz8_1 a1 p399 q399; cases e399; replace hx399_0 := pw_cell_below HB.out hx399_0; replace p399 := eq_true p399; replace q399 := eq_true q399))
        go_ret
        exact ⟨by first | rfl | (simp; done) | (simp [errW_none, errW_some] <;> rfl) | (simp [*, errW_none, errW_some] <;> rfl) | (simp [bne, List.isEmpty_iff]; done) | (rw [Bool.eq_iff_iff]; simp), by repeat (first | (with_reducible first | exact HI0.out | apply IsS31.alloc | apply IsS31.drewN | apply IsS31.drew | apply IsS31.set_0) | exact HI0.out), by repeat (first | (with_reducible first | exact HB.out | apply below_alloc | apply pw_below_drewN | apply below_drew1 | refine below_set ?_ (IsS31.ge HI0.out)) | exact HB.out), by repeat (first | (with_reducible first | exact HK.out | apply KeepBut.set_ | apply keep_drewN | apply keep_drew | apply keep_alloc) | exact HK.out)⟩
      · rw [if_neg c7] at H
        exact absurd H (by simp)
    · rw [if_neg c6] at H
      exact absurd H (by simp)
  · replace c5 := Bool.eq_false_iff.mpr c5
    subst c5
    have H1 : (some (false, s0_0)) = some (r1, r2) := by rw [if_neg (show ¬ (false = true) by decide)] at H; exact H
    clear H
    have H := H1
    clear H1
    simp only [Option.some.injEq, Prod.mk.injEq] at H
    obtain ⟨rfl, rfl⟩ := H
    obtain ⟨ASz9_1, cSz9_1, HGz9, hgz9, HSz9_1⟩ := HI0.out
    have hcz9_0 := cellS31_0 HGz9
    have hcz9_1 := cellS31_1 HGz9
    have hfz9_0 := blk_frozen HGz9 0
    clear HGz9 hgz9
    go_enter Try.func137, Try.ntmps137
    go_wp2_with (first | ((with_reducible refine gate_callee (f := 60) rfl ?_); refine goesL_ (some 14) rfl rfl Try.func60 (by kernel_rfl) rfl #[.int .i64 a1, .int .i64 0, .int .i64 (wrap64 ((s0_1.length : Int) - 1))] rfl (by (try simp only [List.map_toArray, List.map_cons, List.map_nil]); first | done | rfl | (simp only [List.length_drop, List.length_take]; rfl)) ?_; (with_reducible refine (impl_within.calls a1 0 (wrap64 ((s0_1.length : Int) - 1)) false _ A4.out).mono ?_); rintro e w' ⟨rfl, ⟨nd, rfl⟩⟩; refine ⟨_, rfl, ?_⟩))
    go_ret
    exact ⟨by first | rfl | (simp; done) | (simp [errW_none, errW_some] <;> rfl) | (simp [*, errW_none, errW_some] <;> rfl) | (simp [bne, List.isEmpty_iff]; done) | (rw [Bool.eq_iff_iff]; simp), by repeat (first | (with_reducible first | exact HI0.out | apply IsS31.alloc | apply IsS31.drewN | apply IsS31.drew | apply IsS31.set_0) | exact HI0.out), by repeat (first | (with_reducible first | exact HB.out | apply below_alloc | apply pw_below_drewN | apply below_drew1 | refine below_set ?_ (IsS31.ge HI0.out)) | exact HB.out), by repeat (first | (with_reducible first | exact HK.out | apply KeepBut.set_ | apply keep_drewN | apply keep_drew | apply keep_alloc) | exact HK.out)⟩
-- NOT PRINTED: function 138 (impl_State_capsAre)
-- NOT PRINTED: function 101 (impl_State_wants)
def impl_gives.f (a0 : Int) : Option (Bool) := if a0 = 1 then (some true) else (if a0 = 2 then (some true) else (if a0 = 5 then (some true) else (if a0 = 7 then (some true) else (if a0 = 9 then (some true) else (if a0 = 10 then (some true) else (if a0 = 11 then (some true) else (if a0 = 15 then (some true) else (if a0 = 16 then (some true) else (some false)))))))))
set_option maxHeartbeats 8000000 in
set_option maxRecDepth 100000 in
theorem impl_gives.calls (a0 : Int) (r : Bool) (w : World) (h : impl_gives.f a0 = some r) :
    Calls Try.prog 103 #[.int .i64 a0] w fun e w' => e = .returned (.bool r) ∧ Drawn0 w w' := by
  have H : (if a0 = 1 then (some true) else (if a0 = 2 then (some true) else (if a0 = 5 then (some true) else (if a0 = 7 then (some true) else (if a0 = 9 then (some true) else (if a0 = 10 then (some true) else (if a0 = 11 then (some true) else (if a0 = 15 then (some true) else (if a0 = 16 then (some true) else (some false)))))))))) = some r := h
  clear h
  by_cases c2 : a0 = 1
  · rw [if_pos c2] at H
    have c2b0 : (a0 == 1) = true := beq_iff_eq.mpr c2
    have c2b1 : (a0 != 1) = false := bne_eq_false_iff_eq.mpr c2
    clear c2
    obtain rfl := Option.some.inj H
    go_enter Try.func103, Try.ntmps103
    go_wp2
    go_ret
    exact ⟨by first | rfl | (simp; done) | (simp [*]; done), by repeat (first | exact Drawn0.refl _ | apply Drawn0.step)⟩
  · rw [if_neg c2] at H
    have c2b0 : (a0 == 1) = false := beq_eq_false_iff_ne.mpr c2
    have c2b1 : (a0 != 1) = true := bne_iff_ne.mpr c2
    by_cases c3 : a0 = 2
    · rw [if_pos c3] at H
      have c3b0 : (a0 == 2) = true := beq_iff_eq.mpr c3
      have c3b1 : (a0 != 2) = false := bne_eq_false_iff_eq.mpr c3
      clear c3
      obtain rfl := Option.some.inj H
      go_enter Try.func103, Try.ntmps103
      go_wp2
      go_ret
      exact ⟨by first | rfl | (simp; done) | (simp [*]; done), by repeat (first | exact Drawn0.refl _ | apply Drawn0.step)⟩
    · rw [if_neg c3] at H
      have c3b0 : (a0 == 2) = false := beq_eq_false_iff_ne.mpr c3
      have c3b1 : (a0 != 2) = true := bne_iff_ne.mpr c3
      by_cases c4 : a0 = 5
      · rw [if_pos c4] at H
        have c4b0 : (a0 == 5) = true := beq_iff_eq.mpr c4
        have c4b1 : (a0 != 5) = false := bne_eq_false_iff_eq.mpr c4
        clear c4
        obtain rfl := Option.some.inj H
        go_enter Try.func103, Try.ntmps103
        go_wp2
        go_ret
        exact ⟨by first | rfl | (simp; done) | (simp [*]; done), by repeat (first | exact Drawn0.refl _ | apply Drawn0.step)⟩
      · rw [if_neg c4] at H
        have c4b0 : (a0 == 5) = false := beq_eq_false_iff_ne.mpr c4
        have c4b1 : (a0 != 5) = true := bne_iff_ne.mpr c4
        by_cases c5 : a0 = 7
        · rw [if_pos c5] at H
          have c5b0 : (a0 == 7) = true := beq_iff_eq.mpr c5
          have c5b1 : (a0 != 7) = false := bne_eq_false_iff_eq.mpr c5
          clear c5
          obtain rfl := Option.some.inj H
          go_enter Try.func103, Try.ntmps103
          go_wp2
          go_ret
          exact ⟨by first | rfl | (simp; done) | (simp [*]; done), by repeat (first | exact Drawn0.refl _ | apply Drawn0.step)⟩
        · rw [if_neg c5] at H
          have c5b0 : (a0 == 7) = false := beq_eq_false_iff_ne.mpr c5
          have c5b1 : (a0 != 7) = true := bne_iff_ne.mpr c5
          by_cases c6 : a0 = 9
          · rw [if_pos c6] at H
            have c6b0 : (a0 == 9) = true := beq_iff_eq.mpr c6
            have c6b1 : (a0 != 9) = false := bne_eq_false_iff_eq.mpr c6
            clear c6
            obtain rfl := Option.some.inj H
            go_enter Try.func103, Try.ntmps103
            go_wp2
            go_ret
            exact ⟨by first | rfl | (simp; done) | (simp [*]; done), by repeat (first | exact Drawn0.refl _ | apply Drawn0.step)⟩
          · rw [if_neg c6] at H
            have c6b0 : (a0 == 9) = false := beq_eq_false_iff_ne.mpr c6
            have c6b1 : (a0 != 9) = true := bne_iff_ne.mpr c6
            by_cases c7 : a0 = 10
            · rw [if_pos c7] at H
              have c7b0 : (a0 == 10) = true := beq_iff_eq.mpr c7
              have c7b1 : (a0 != 10) = false := bne_eq_false_iff_eq.mpr c7
              clear c7
              obtain rfl := Option.some.inj H
              go_enter Try.func103, Try.ntmps103
              go_wp2
              go_ret
              exact ⟨by first | rfl | (simp; done) | (simp [*]; done), by repeat (first | exact Drawn0.refl _ | apply Drawn0.step)⟩
            · rw [if_neg c7] at H
              have c7b0 : (a0 == 10) = false := beq_eq_false_iff_ne.mpr c7
              have c7b1 : (a0 != 10) = true := bne_iff_ne.mpr c7
              by_cases c8 : a0 = 11
              · rw [if_pos c8] at H
                have c8b0 : (a0 == 11) = true := beq_iff_eq.mpr c8
                have c8b1 : (a0 != 11) = false := bne_eq_false_iff_eq.mpr c8
                clear c8
                obtain rfl := Option.some.inj H
                go_enter Try.func103, Try.ntmps103
                go_wp2
                go_ret
                exact ⟨by first | rfl | (simp; done) | (simp [*]; done), by repeat (first | exact Drawn0.refl _ | apply Drawn0.step)⟩
              · rw [if_neg c8] at H
                have c8b0 : (a0 == 11) = false := beq_eq_false_iff_ne.mpr c8
                have c8b1 : (a0 != 11) = true := bne_iff_ne.mpr c8
                by_cases c9 : a0 = 15
                · rw [if_pos c9] at H
                  have c9b0 : (a0 == 15) = true := beq_iff_eq.mpr c9
                  have c9b1 : (a0 != 15) = false := bne_eq_false_iff_eq.mpr c9
                  clear c9
                  obtain rfl := Option.some.inj H
                  go_enter Try.func103, Try.ntmps103
                  go_wp2
                  go_ret
                  exact ⟨by first | rfl | (simp; done) | (simp [*]; done), by repeat (first | exact Drawn0.refl _ | apply Drawn0.step)⟩
                · rw [if_neg c9] at H
                  have c9b0 : (a0 == 15) = false := beq_eq_false_iff_ne.mpr c9
                  have c9b1 : (a0 != 15) = true := bne_iff_ne.mpr c9
                  by_cases c10 : a0 = 16
                  · rw [if_pos c10] at H
                    have c10b0 : (a0 == 16) = true := beq_iff_eq.mpr c10
                    have c10b1 : (a0 != 16) = false := bne_eq_false_iff_eq.mpr c10
                    clear c10
                    obtain rfl := Option.some.inj H
                    go_enter Try.func103, Try.ntmps103
                    go_wp2
                    go_ret
                    exact ⟨by first | rfl | (simp; done) | (simp [*]; done), by repeat (first | exact Drawn0.refl _ | apply Drawn0.step)⟩
                  · rw [if_neg c10] at H
                    have c10b0 : (a0 == 16) = false := beq_eq_false_iff_ne.mpr c10
                    have c10b1 : (a0 != 16) = true := bne_iff_ne.mpr c10
                    obtain rfl := Option.some.inj H
                    go_enter Try.func103, Try.ntmps103
                    go_wp2
                    go_ret
                    exact ⟨by first | rfl | (simp; done) | (simp [*]; done), by repeat (first | exact Drawn0.refl _ | apply Drawn0.step)⟩
-- NOT PRINTED: function 61 (impl_State_stepped)
-- NOT PRINTED: function 112 (impl_flow_go1)
-- NOT PRINTED: function 67 (impl_states)
-- NOT PRINTED: function 24 (impl_Verify)
-- NOT PRINTED: function 4 (laws_FnExactVerify)
end Go.Proofs.Ytcbaokflimdjnaa.QFnExactVerify
end
section
namespace Go.Proofs.Ytcbaokflimdjnaa.Flow
open Go.RowKit Go.Proofs.YtcbaokflimdjnaaW.PrintWords Go.Proofs.YtcbaokflimdjnaaW.PrintMore Go.Proofs.Ytcbaokflimdjnaa.Law Go.Proofs.Ytcbaokflimdjnaa Go.Proofs.Ytcbaokflimdjnaa.QFnExactVerify Go.Proofs.Ytcbaokflimdjnaa.Num Go.Proofs.Ytcbaokflimdjnaa.PureJoin
set_option linter.unusedVariables false
set_option linter.unusedSimpArgs false
set_option autoImplicit false
theorem gives_ok (o : Int) : impl_gives.f o = some (givesB o) := by
  unfold impl_gives.f givesB
  repeat' split
  all_goals simp_all
set_option maxHeartbeats 8000000 in
set_option maxRecDepth 100000 in
theorem cCopy (s : State) (cs : List Value) (w : World) (hk : kStateI.K w s cs) (hl : s.regs.length ≤ 1048576) :
    Calls Try.prog 102 #[.agg ⟨cs⟩] w fun e w' => ∃ ds, e = .returned (.agg ⟨ds⟩) ∧ kStateI.M w' w.heap.size (fun _ => True) s ds ∧ Below w.heap.size w w' := by
  obtain ⟨A, c, rfl, h1, h2⟩ := kStateI_open hk
  have hu := Try.underlying31; have hu1 := Try.underlying26; have hu2 := Try.underlying3
  have HC := Aside0.mk h2; have HK := Aside0.mk h1
  clear hk h1 h2
  have M0 := Aside0.mk (((Mem.start w).allocAt rfl #[.int .i64 s.acc, .slice A s.regs.length c] 31).allocAt (g := w.heap.size + 1) (by simp) #[.int .i64 0, .slice none 0 0] 31)
  have z0 := M0.out.box (.tail _ (.head _)); have z1 := M0.out.box (.head _)
  go_enter Try.func102, Try.ntmps102
  have HSZ := Aside0.mk (Below.refl ((w.alloc (.cells #[.int .i64 s.acc, .slice A s.regs.length c] 31)).alloc (.cells #[.int .i64 0, .slice none 0 0] 31)).heap.size ((w.alloc (.cells #[.int .i64 s.acc, .slice A s.regs.length c] 31)).alloc (.cells #[.int .i64 0, .slice none 0 0] 31)))
  go_wp2_with (((with_reducible refine gate_builtin (b := .append) (xs := #[.const (.slice none 0 0), .tmp 4]) rfl ?_); at_builtin; refine Aside0.out ?_))
  refine ⟨?_⟩
  clear z0 z1
  generalize hW : ((w.alloc (.cells #[.int .i64 s.acc, .slice A s.regs.length c] 31)).alloc (.cells #[.int .i64 0, .slice none 0 0] 31)) = W at M0 HSZ ⊢
  clear hW
  (refine Kd.R_append_row (Value.int .i64) (0 : Int) (h1 := fun _ => rfl) (w0 := W) W.heap.size rfl (.const (.slice none 0 0)) (.tmp 4) 26 3 (.int .i64 0) 8 rfl Try.underlying26 info3 rfl (by decide) (.slice none 0 0) [] s.regs ?hA ?hM ?hC (fun _ => True) rfl ?aX (fun _ _ => trivial) (Kd.R_nil _ _ _ _ _) ?aR (Below.refl _ _) (Nat.le_refl _) ?aL ?_; (case aX => first | rfl | (go_simp; done) | (go_simp; rfl)); (case aR => exact Kd.C_below HC.out M0.out.below); (case aL => simp; omega); intro v9 w9 ho hb9 hg hat; have HO9 := Aside0.mk ho; have HB9 := Aside0.mk hb9; clear ho hb9 hg hat)
  obtain ⟨v9A, v9c, rfl⟩ := Kd.R_slice HO9.out
  have M1 := Aside0.mk (M0.out.step HB9.out)
  have z0 := M1.out.box (.tail _ (.head _)); have z1 := M1.out.box (.head _)
  have f0 := M1.out.free (.tail _ (.head _)); have f1 := M1.out.free (.head _)
  have HWS := Aside0.mk (show w.heap.size + 2 ≤ W.heap.size from (M0.out.fits _ (.head _)).2)
  have M2 := Aside0.mk (M0.out.pushR HB9.out HO9.out)
  have M3 := Aside0.mk (Mem.set (A := [_, _]) M2.out 1 (.slice v9A s.regs.length v9c) rfl)
  have M4 := Aside0.mk (Mem.set (A := [_]) (Mem.set (A := [_]) M3.out 0 (.int .i64 s.acc) rfl) 1 (.slice v9A s.regs.length v9c) rfl)
  clear M1 M2 M3
  go_wp2
  refine bodyPost_ret (results_cell_row rfl _ _ (w.heap.size + 1) 31 #[.int .i64 s.acc, .slice v9A s.regs.length v9c] (0, 0) _ rfl (M4.out.blk (.tail _ (.head _))) hu rfl (by kernel_rfl)) rfl ?_
  exact ⟨_, rfl, kStateI_mkM _ _ _ s (M4.out.rowT (.head _)), M4.out.below⟩
end Go.Proofs.Ytcbaokflimdjnaa.Flow
end
section
namespace Go.Proofs.Ytcbaokflimdjnaa.Flow
open Go.RowKit Go.Proofs.YtcbaokflimdjnaaW.PrintWords Go.Proofs.YtcbaokflimdjnaaW.PrintLast Go.Proofs.Ytcbaokflimdjnaa.Steps Go.Proofs.YtcbaokflimdjnaaW.PrintMore Go.Proofs.Ytcbaokflimdjnaa.Law Go.Proofs.Ytcbaokflimdjnaa Go.Proofs.Ytcbaokflimdjnaa.QFnExactVerify Go.Proofs.Ytcbaokflimdjnaa.Num Go.Proofs.Ytcbaokflimdjnaa.PureJoin
set_option linter.unusedVariables false
set_option linter.unusedSimpArgs false
set_option autoImplicit false
def stepOk (x : Image) (f : Func) (i : Ins) (s : State) : Bool := decide ((s.regs.length : Int) = f.regs) && mayB x f i s
def stepped (x : Image) (f : Func) (i : Ins) (s : State) : State := if stepOk x f i s = true then afterS i s else zState
theorem may_room {x : Image} {f : Func} {i : Ins} {s : State} (h : mayB x f i s = true) (ho : i.op = 3 ∨ i.op = 4) : i.a < (s.regs.length : Int) := by
  unfold mayB at h
  rcases ho with ho | ho <;> (rw [ho] at h; simp [room] at h; omega)
def stepI.T1 : Bool × List (List Nat × List Nat) := (true, [([], []), ([0], [0]), ([1], [1]), ([], []), ([3], [3]), ([4], [4]), ([5], [5]), ([2, 6], [2, 6]), ([7], [7]), ([8], [8]), ([8], [8]), ([8], [8]), ([9, 10, 11, 8, 8], [8, 9, 10, 11]), ([12, 8], [8, 12]), ([8, 13], [8, 13])])
def stepI.B1 : List Nat := [0, 1, 3, 0, 8, 24, 56, 127, 255, 511, 511, 511, 4095, 8191, 16383]
theorem stepI.tab1 : rtab .any (opsOf Try.f61 1) = stepI.T1 := by kernel_rfl
theorem stepI.bits1 : waitsOk stepI.T1.2 stepI.B1 = true := by kernel_rfl
set_option maxHeartbeats 8000000 in
set_option maxRecDepth 100000 in
theorem cStepped (x : Image) (j : Nat) (s : State) (i : Ins) (cs : List Value) (gx : Nat) (fa : Addr) (c0 : Nat) (A1 : Option Addr) (c1 : Nat) (w : World) (hk : kStateI.K w s cs) (hl : s.regs.length ≤ 1048576) (hx0 : w.cell? ⟨gx, 0, none⟩ = some (.slice (some fa) x.funcs.length c0)) (hx1 : w.cell? ⟨gx, 1, none⟩ = some (.slice A1 x.consts.length c1)) (g0 : kFuncI.C w (some fa) x.funcs.length x.funcs) (hj : j < x.funcs.length) (hx : x.funcs.length ≤ 1048576) (hf : (el zFunc x.funcs j).caps.length ≤ 1048576) (ho : 1 ≤ i.op ∧ i.op ≤ 19) (ha : 0 ≤ i.a ∧ i.a ≤ 300) (hb : 0 ≤ i.b ∧ i.b ≤ 300) :
    Calls Try.prog 61 #[.agg ⟨cs⟩, .pointer (some ⟨gx, 0, none⟩), .pointer (some (fa.add (j * 5))), .agg #[.int .i64 i.op, .int .i64 i.a, .int .i64 i.b]] w fun e w' => ∃ ds, e = .returned (.tuple #[.agg ⟨ds⟩, .bool (stepOk x (el zFunc x.funcs j) i s)]) ∧ kStateI.M w' w.heap.size (fun _ => True) (stepped x (el zFunc x.funcs j) i s) ds ∧ Below w.heap.size w w' := by
  obtain ⟨AR, cR, rfl, hcR, hr⟩ := kStateI_open hk
  have hu := Try.underlying31; have hu1 := Try.underlying26; have hu2 := Try.underlying73; have hu3 := Try.underlying76
  obtain ⟨fa0, A2, c2, A3, c3, A4, c4, hfa, x0, x1, x2, x3, x4, hcap, hcode, hhan⟩ := func_at5 g0 j hj
  cases hfa
  have HW := Aside0.mk (fun (gs : Nat) (W : World) (hB : Below w.heap.size w W) (h0 : W.cell? ⟨gs, 0, none⟩ = some (.int .i64 s.acc)) (h1 : W.cell? ⟨gs, 1, none⟩ = some (.slice AR s.regs.length cR)) => cWants x j s gs gx fa c0 A1 c1 AR cR W h0 h1 (Kd.C_below hr hB) hl (pw_cell_below hB hx0) (pw_cell_below hB hx1) (Kd.C_below g0 hB) hj hx hf i ho ha hb)
  obtain ⟨f, hfe⟩ : ∃ f, f = el zFunc x.funcs j := ⟨_, rfl⟩
  rw [← hfe] at x1 HW ⊢
  have HK := Aside0.mk hk; have FR := Aside0.mk x1
  clear hfe g0 hx0 hx1 hr hcap hcode hhan x0 x1 x2 x3 x4 hk hf
  have M0 := Aside0.mk ((((Mem.start w).allocAt rfl #[.int .i64 s.acc, .slice AR s.regs.length cR] 31).allocAt (g := w.heap.size + 1) (by simp) #[.int .i64 i.op, .int .i64 i.a, .int .i64 i.b] 76).allocAt (g := w.heap.size + 2) (by simp) #[.int .i64 0, .slice none 0 0] 31)
  go_enter Try.func61, Try.ntmps61
  go_upto_region 1 with fail
  generalize ((w.alloc (.cells #[.int .i64 s.acc, .slice AR s.regs.length cR] 31)).alloc (.cells #[.int .i64 i.op, .int .i64 i.a, .int .i64 i.b] 76)).alloc (.cells #[.int .i64 0, .slice none 0 0] 31) = wq at M0 ⊢
  obtain ⟨L, HL, ML⟩ := Mem.hide M0
  have EB := Aside0.mk (show Hold.box w.heap.size #[.int .i64 s.acc, .slice AR s.regs.length cR] 31 ∈ L from HL.out ▸ (.tail _ (.tail _ (.head _))))
  have EI := Aside0.mk (show Hold.box (w.heap.size + 1) #[.int .i64 i.op, .int .i64 i.a, .int .i64 i.b] 76 ∈ L from HL.out ▸ (.tail _ (.head _)))
  have MD := Aside0.mk ML.out.drew
  clear M0 ML
  by_cases hlen : (s.regs.length : Int) = f.regs
  rotate_left
  · have HOK := Aside0.mk (show stepOk x f i s = false from by unfold stepOk; rw [decide_eq_false hlen]; rfl)
    have hne : ((s.regs.length : Int) != f.regs) = true := by simpa using hlen
    refine sz 15 (fun W => W.cell? ⟨w.heap.size, 1, none⟩ = some (.slice AR s.regs.length cR) ∧ W.cell? ⟨(fa.add (j * 5)).block, (fa.add (j * 5)).off + 1, none⟩ = some (.int .i64 f.regs) ∧ W.cell? ⟨w.heap.size + 1, 0, none⟩ = some (.int .i64 i.op) ∧ W.cell? ⟨w.heap.size + 1, 1, none⟩ = some (.int .i64 i.a) ∧ W.cell? ⟨w.heap.size + 1, 2, none⟩ = some (.int .i64 i.b)) [] stepI.tab1 stepI.bits1 ⟨(MD.out.box EB.out 1).trans rfl, pw_cell_below MD.out.below FR.out, (MD.out.box EI.out 0).trans rfl, (MD.out.box EI.out 1).trans rfl, (MD.out.box EI.out 2).trans rfl⟩ (fun HT_ HW_ hHeld => ?_)
    generalize wq.drew = wd at MD hHeld ⊢
    refine pz 0 11 ?_; refine pz 3 14 ?_; refine pz 4 15 ?_; refine pz 5 16 ?_; refine tz 1 12 ?_; refine pz 2 13 ?_; refine tz 6 17 ?_; refine pz 7 18 ?_; refine pz 8 19 ?_; refine oz 9 20 ?_; refine oz 10 21 ?_; refine oz 11 22 ?_; refine oz 12 23 ?_; refine oz 13 24 ?_; refine pz 14 25 ?_
    refine dz ?_
    have hl2 := HL.out; subst hl2; clear HL EB EI
    have b0 := MD.out.box (.head _); have b1 := MD.out.free (.head _)
    have M8 := Aside0.mk (Mem.set (A := []) (Mem.set (A := []) MD.out 0 (.int .i64 0) rfl) 1 (.slice none 0 0) rfl)
    go_wp2
    refine bodyPost_ret (results_ct rfl _ _ (w.heap.size + 2) 31 #[.int .i64 0, .slice none 0 0] (0, 0) _ rfl (M8.out.blk (.head _)) hu rfl (by kernel_rfl)) rfl ?_
    have HS := Aside0.mk (show stepped x f i s = zState from by unfold stepped; rw [if_neg (by rw [HOK.out]; decide)])
    refine ⟨_, congrArg Ending.returned (by rw [HOK.out]; rfl), ?_, M8.out.below⟩
    rw [HS.out]
    exact kStateI_mkM _ _ _ zState (Kd.R_nil _ _ _ _ _)
  have hne : ((s.regs.length : Int) != f.regs) = false := by simpa using hlen
  rcases Bool.eq_false_or_eq_true (mayB x f i s) with hmb | hmb
  rotate_left
  · have HOK := Aside0.mk (show stepOk x f i s = false from by unfold stepOk; rw [hmb]; simp)
    have HMB := Aside0.mk hmb; clear hmb
    refine sz 15 (fun W => W.cell? ⟨w.heap.size, 1, none⟩ = some (.slice AR s.regs.length cR) ∧ W.cell? ⟨(fa.add (j * 5)).block, (fa.add (j * 5)).off + 1, none⟩ = some (.int .i64 f.regs) ∧ W.cell? ⟨w.heap.size + 1, 0, none⟩ = some (.int .i64 i.op) ∧ W.cell? ⟨w.heap.size + 1, 1, none⟩ = some (.int .i64 i.a) ∧ W.cell? ⟨w.heap.size + 1, 2, none⟩ = some (.int .i64 i.b)) [] stepI.tab1 stepI.bits1 ⟨(MD.out.box EB.out 1).trans rfl, pw_cell_below MD.out.below FR.out, (MD.out.box EI.out 0).trans rfl, (MD.out.box EI.out 1).trans rfl, (MD.out.box EI.out 2).trans rfl⟩ (fun HT_ HW_ hHeld => ?_)
    generalize wq.drew = wd at MD hHeld ⊢
    refine pz 0 11 ?_; refine pz 3 14 ?_; refine pz 4 15 ?_; refine pz 5 16 ?_; refine tz 1 12 ?_; refine pz 2 13 ?_; refine tz 6 17 ?_; refine pz 7 18 ?_; refine pz 8 19 ?_; refine pz 9 20 ?_; refine pz 10 21 ?_; refine tz 11 22 ?_
    refine ez 12 (some 23) (fun K hK => ?_)
    refine gz Try.func101 #[.pointer (some ⟨w.heap.size, 0, none⟩), .pointer (some ⟨gx, 0, none⟩), .pointer (some (fa.add (j * 5))), .agg #[.int .i64 i.op, .int .i64 i.a, .int .i64 i.b]] ?_
    have C := HW.out w.heap.size wd MD.out.below ((MD.out.box EB.out 0).trans rfl) ((MD.out.box EB.out 1).trans rfl)
    rw [HMB.out] at C
    refine C.mono ?_; clear C; rintro e w5 ⟨rfl, hb5⟩
    have M5 := Aside0.mk (MD.out.step hb5); clear hb5
    refine ⟨_, rfl, ?_⟩
    refine hK.out _ _ ⟨(M5.out.box EB.out 1).trans rfl, pw_cell_below M5.out.below FR.out, (M5.out.box EI.out 0).trans rfl, (M5.out.box EI.out 1).trans rfl, (M5.out.box EI.out 2).trans rfl⟩ (fun hHeld => ?_); clear hK K; refine kz (some 23) ?_
    refine pz 13 24 ?_; refine pz 14 25 ?_
    refine dz ?_
    have hl2 := HL.out; subst hl2; clear HL EB EI
    have b0 := M5.out.box (.head _); have b1 := M5.out.free (.head _)
    have M8 := Aside0.mk (Mem.set (A := []) (Mem.set (A := []) M5.out 0 (.int .i64 0) rfl) 1 (.slice none 0 0) rfl)
    go_wp2
    refine bodyPost_ret (results_ct rfl _ _ (w.heap.size + 2) 31 #[.int .i64 0, .slice none 0 0] (0, 0) _ rfl (M8.out.blk (.head _)) hu rfl (by kernel_rfl)) rfl ?_
    have HS := Aside0.mk (show stepped x f i s = zState from by unfold stepped; rw [if_neg (by rw [HOK.out]; decide)])
    refine ⟨_, congrArg Ending.returned (by rw [HOK.out]; rfl), ?_, M8.out.below⟩
    rw [HS.out]
    exact kStateI_mkM _ _ _ zState (Kd.R_nil _ _ _ _ _)
  have HOK := Aside0.mk (show stepOk x f i s = true from by unfold stepOk; rw [hmb, decide_eq_true hlen]; rfl)
  have HMB := Aside0.mk hmb; clear hmb hlen
  refine sz 15 (fun W => W.cell? ⟨w.heap.size, 1, none⟩ = some (.slice AR s.regs.length cR) ∧ W.cell? ⟨(fa.add (j * 5)).block, (fa.add (j * 5)).off + 1, none⟩ = some (.int .i64 f.regs) ∧ W.cell? ⟨w.heap.size + 1, 0, none⟩ = some (.int .i64 i.op) ∧ W.cell? ⟨w.heap.size + 1, 1, none⟩ = some (.int .i64 i.a) ∧ W.cell? ⟨w.heap.size + 1, 2, none⟩ = some (.int .i64 i.b)) [] stepI.tab1 stepI.bits1 ⟨(MD.out.box EB.out 1).trans rfl, pw_cell_below MD.out.below FR.out, (MD.out.box EI.out 0).trans rfl, (MD.out.box EI.out 1).trans rfl, (MD.out.box EI.out 2).trans rfl⟩ (fun HT_ HW_ hHeld => ?_)
  generalize wq.drew = wd at MD hHeld ⊢
  refine pz 0 11 ?_; refine pz 3 14 ?_; refine pz 4 15 ?_; refine pz 5 16 ?_; refine tz 1 12 ?_; refine pz 2 13 ?_; refine tz 6 17 ?_; refine pz 7 18 ?_; refine pz 8 19 ?_; refine pz 9 20 ?_; refine pz 10 21 ?_; refine tz 11 22 ?_
  refine ez 12 (some 23) (fun K hK => ?_)
  refine gz Try.func101 #[.pointer (some ⟨w.heap.size, 0, none⟩), .pointer (some ⟨gx, 0, none⟩), .pointer (some (fa.add (j * 5))), .agg #[.int .i64 i.op, .int .i64 i.a, .int .i64 i.b]] ?_
  have C := HW.out w.heap.size wd MD.out.below ((MD.out.box EB.out 0).trans rfl) ((MD.out.box EB.out 1).trans rfl)
  rw [HMB.out] at C
  refine C.mono ?_; clear C; rintro e w5 ⟨rfl, hb5⟩
  have M5 := Aside0.mk (MD.out.step hb5); clear hb5
  refine ⟨_, rfl, ?_⟩
  refine hK.out _ _ ⟨(M5.out.box EB.out 1).trans rfl, pw_cell_below M5.out.below FR.out, (M5.out.box EI.out 0).trans rfl, (M5.out.box EI.out 1).trans rfl, (M5.out.box EI.out 2).trans rfl⟩ (fun hHeld => ?_); clear hK K; refine kz (some 23) ?_
  refine pz 13 24 ?_; refine pz 14 25 ?_
  refine dz ?_
  have hl2 := HL.out; subst hl2; clear HL EB EI
  have HN5 := Aside0.mk (M5.out.fits _ (.head _)).2
  have z0 := M5.out.box (.tail _ (.tail _ (.head _))); have z1 := M5.out.box (.tail _ (.head _))
  have HS := Aside0.mk (show stepped x f i s = afterS i s from by unfold stepped; rw [if_pos HOK.out])
  go_wp2_with fail
  refine (cCopy s _ _ (kStateI.K_below M5.out.below HK.out) hl).mono ?_; rintro e w9 ⟨ds, rfl, hm, hb9⟩; obtain ⟨v9, rfl, hr9⟩ := kStateI_openM hm; obtain ⟨X9, y9, rfl⟩ := Kd.R_slice hr9
  have M9 := Aside0.mk (M5.out.push hb9 hm); clear hm hb9 hr9 z0 z1
  have hn9 : w.heap.size + 2 + 1 ≤ w9.heap.size := (M9.out.fits _ (.tail _ (.head _))).2
  have hn5 : w.heap.size + 2 + 1 ≤ w5.heap.size := HN5.out
  obtain ⟨g9, hg9⟩ : ∃ g : Nat, g = w9.heap.size := ⟨_, rfl⟩
  have hd1 : ¬ (w.heap.size + 1 + 1 = g9) := by omega
  have hd2 : ¬ (g9 = w.heap.size + 1 + 1) := by omega
  have hd3 : ¬ (w.heap.size + 2 = g9) := by omega
  have hd4 : ¬ (g9 = w.heap.size + 2) := by omega
  have M10 := Aside0.mk (M9.out.allocAt hg9 #[.int .i64 s.acc, .slice X9 s.regs.length y9] 31); clear M9
  have z1 := M10.out.box (.tail _ (.tail _ (.tail _ (.head _)))); have z2 := M10.out.box (.tail _ (.tail _ (.head _))); have z3 := M10.out.box (.head _); have f3 := M10.out.free (.head _); have f2 := M10.out.free (.tail _ (.tail _ (.head _)))
  go_upto_region 4 with fail
  rw [← hg9]
  have HG9 := Aside0.mk hg9; clear hg9
  generalize w9.alloc (.cells #[.int .i64 s.acc, .slice X9 s.regs.length y9] 31) = w10 at M10 z1 z2 z3 f2 f3 ⊢
  by_cases h3 : i.op = 3
  · have q3 : (i.op == 3) = true := by simp [h3]
    have HA := Aside0.mk (show afterS i s = ⟨s.acc, s.regs.set i.a.toNat 1⟩ from by unfold afterS givesB; rw [h3]; simp)
    have hlt := may_room HMB.out (by omega)
    obtain ⟨qa, hqa⟩ : ∃ qa : Nat, i.a = qa := ⟨i.a.toNat, by omega⟩
    have hql : qa < s.regs.length := by omega
    have hq0 : (0 : Int) ≤ (qa : Int) := by omega
    have hq1 : (qa : Int) < (s.regs.length : Int) := by omega
    have HV9 := M10.out.val (.tail _ (.head _))
    obtain ⟨v10, hv10, hr10⟩ := kStateI_openM HV9
    cases hv10
    obtain ⟨gq, cq, hgq, hgb, hgl, _⟩ := Kd.R_form hr10 (by omega)
    injection hgq with e1 e2 e3; subst e1; subst e3; clear e2
    obtain ⟨k0, k1⟩ := Kd.R_celln 0 hr10 (qa : Int) (by omega) (by omega)
    rw [Int.toNat_natCast] at k0 k1
    obtain ⟨hp1, hp2⟩ := Kd.R_putg hr10 (qa : Int) 1
    rw [Int.toNat_natCast] at hp1 hp2
    have HP1 := Aside0.mk hp1; have HP2 := Aside0.mk hp2; have HGB := Aside0.mk hgb; have HOKB := Aside0.mk (hr10.1 gq (by simp [Value.ownBlock])); clear hp1 hp2 hgb
    have hd5 : w5.heap.size ≤ gq ∧ gq < w9.heap.size := HOKB.out
    have hg9 := HG9.out
    have hd6 : ¬ (w.heap.size + 1 + 1 = gq) := by omega
    have hd7 : ¬ (gq = w.heap.size + 1 + 1) := by omega
    have hd8 : ¬ (g9 = gq) := by omega
    have hd9 : ¬ (gq = g9) := by omega
    have hwq : w.heap.size ≤ gq := by omega
    clear hg9
    rw [hqa] at M10 z1 HA
    rw [Int.toNat_natCast] at HA
    have M11 := Aside0.mk (Mem.mark (A := [_]) M10.out (below_set M10.out.below hwq) (Kept.setCell (Kept.refl _ _) (p := ⟨gq, qa, none⟩) (.inl HOKB.out) (.int .i64 1)) (kStateI_mkM _ _ _ ⟨s.acc, s.regs.set qa 1⟩ HP1.out))
    go_wp2
    clear M10
    have M12 := Aside0.mk (Mem.set (A := [_, _]) (Mem.set (A := [_, _]) M11.out 0 (.int .i64 s.acc) rfl) 1 (.slice (some ⟨gq, 0, none⟩) s.regs.length y9) rfl)
    refine bodyPost_ret (results_ct rfl _ _ (w.heap.size + 2) 31 #[.int .i64 s.acc, .slice (some ⟨gq, 0, none⟩) s.regs.length y9] (0, 0) _ rfl (M12.out.blk (.tail _ (.tail _ (.head _)))) hu rfl (by kernel_rfl)) rfl ?_
    have HV := M12.out.val (.tail _ (.head _))
    refine ⟨_, congrArg Ending.returned (by rw [HOK.out]; rfl), ?_, M12.out.below⟩
    rw [HS.out, HA.out]
    obtain ⟨v11, hv11, hr11⟩ := kStateI_openM HV
    cases hv11
    exact kStateI_mkM _ _ _ ⟨s.acc, s.regs.set qa 1⟩ (Kd.R_mono (Kd.R_lower hr11 (M12.out.fits _ (.tail _ (.head _))).1) (fun _ _ => trivial))
  by_cases h4 : i.op = 4
  · have q4 : (i.op == 4) = true := by simp [h4]
    have q3 : (i.op == 3) = false := by simp [h4]
    have HA := Aside0.mk (show afterS i s = ⟨s.acc, s.regs.set i.a.toNat 2⟩ from by unfold afterS givesB; rw [h4]; simp)
    have hlt := may_room HMB.out (by omega)
    obtain ⟨qa, hqa⟩ : ∃ qa : Nat, i.a = qa := ⟨i.a.toNat, by omega⟩
    have hql : qa < s.regs.length := by omega
    have hq0 : (0 : Int) ≤ (qa : Int) := by omega
    have hq1 : (qa : Int) < (s.regs.length : Int) := by omega
    have HV9 := M10.out.val (.tail _ (.head _))
    obtain ⟨v10, hv10, hr10⟩ := kStateI_openM HV9
    cases hv10
    obtain ⟨gq, cq, hgq, hgb, hgl, _⟩ := Kd.R_form hr10 (by omega)
    injection hgq with e1 e2 e3; subst e1; subst e3; clear e2
    obtain ⟨k0, k1⟩ := Kd.R_celln 0 hr10 (qa : Int) (by omega) (by omega)
    rw [Int.toNat_natCast] at k0 k1
    obtain ⟨hp1, hp2⟩ := Kd.R_putg hr10 (qa : Int) 2
    rw [Int.toNat_natCast] at hp1 hp2
    have HP1 := Aside0.mk hp1; have HP2 := Aside0.mk hp2; have HGB := Aside0.mk hgb; have HOKB := Aside0.mk (hr10.1 gq (by simp [Value.ownBlock])); clear hp1 hp2 hgb
    have hd5 : w5.heap.size ≤ gq ∧ gq < w9.heap.size := HOKB.out
    have hg9 := HG9.out
    have hd6 : ¬ (w.heap.size + 1 + 1 = gq) := by omega
    have hd7 : ¬ (gq = w.heap.size + 1 + 1) := by omega
    have hd8 : ¬ (g9 = gq) := by omega
    have hd9 : ¬ (gq = g9) := by omega
    have hwq : w.heap.size ≤ gq := by omega
    clear hg9
    rw [hqa] at M10 z1 HA
    rw [Int.toNat_natCast] at HA
    have M11 := Aside0.mk (Mem.mark (A := [_]) M10.out (below_set M10.out.below hwq) (Kept.setCell (Kept.refl _ _) (p := ⟨gq, qa, none⟩) (.inl HOKB.out) (.int .i64 2)) (kStateI_mkM _ _ _ ⟨s.acc, s.regs.set qa 2⟩ HP1.out))
    go_wp2
    clear M10
    have M12 := Aside0.mk (Mem.set (A := [_, _]) (Mem.set (A := [_, _]) M11.out 0 (.int .i64 s.acc) rfl) 1 (.slice (some ⟨gq, 0, none⟩) s.regs.length y9) rfl)
    refine bodyPost_ret (results_ct rfl _ _ (w.heap.size + 2) 31 #[.int .i64 s.acc, .slice (some ⟨gq, 0, none⟩) s.regs.length y9] (0, 0) _ rfl (M12.out.blk (.tail _ (.tail _ (.head _)))) hu rfl (by kernel_rfl)) rfl ?_
    have HV := M12.out.val (.tail _ (.head _))
    refine ⟨_, congrArg Ending.returned (by rw [HOK.out]; rfl), ?_, M12.out.below⟩
    rw [HS.out, HA.out]
    obtain ⟨v11, hv11, hr11⟩ := kStateI_openM HV
    cases hv11
    exact kStateI_mkM _ _ _ ⟨s.acc, s.regs.set qa 2⟩ (Kd.R_mono (Kd.R_lower hr11 (M12.out.fits _ (.tail _ (.head _))).1) (fun _ _ => trivial))
  have q3 : (i.op == 3) = false := by simp [h3]
  have q4 : (i.op == 4) = false := by simp [h4]
  go_wp2_with fail
  refine (impl_gives.calls i.op (givesB i.op) _ (gives_ok i.op)).mono ?_; rintro e w11 ⟨rfl, ⟨⟨n11, rfl⟩⟩⟩
  have M11 := Aside0.mk (M10.out.draw n11); clear M10 z1 z2 z3 f2 f3
  have z2 := M11.out.box (.tail _ (.tail _ (.head _))); have z3 := M11.out.box (.head _); have f3 := M11.out.free (.head _); have f2 := M11.out.free (.tail _ (.tail _ (.head _)))
  rcases Bool.eq_false_or_eq_true (givesB i.op) with hgv | hgv
  · have HA := Aside0.mk (show afterS i s = ⟨1, s.regs⟩ from by unfold afterS; rw [if_pos hgv])
    have M12 := Aside0.mk (Mem.set (A := []) M11.out 0 (.int .i64 1) rfl)
    rw [hgv]
    go_wp2
    have M11 := M12; clear M12
    have M12 := Aside0.mk (Mem.set (A := [_, _]) (Mem.set (A := [_, _]) M11.out 0 (.int .i64 1) rfl) 1 (.slice X9 s.regs.length y9) rfl)
    refine bodyPost_ret (results_ct rfl _ _ (w.heap.size + 2) 31 #[.int .i64 1, .slice X9 s.regs.length y9] (0, 0) _ rfl (M12.out.blk (.tail _ (.tail _ (.head _)))) hu rfl (by kernel_rfl)) rfl ?_
    have HV := M12.out.val (.tail _ (.head _))
    refine ⟨_, congrArg Ending.returned (by rw [HOK.out]; rfl), ?_, M12.out.below⟩
    rw [HS.out, HA.out]
    obtain ⟨v10, hv10, hr10⟩ := kStateI_openM HV
    cases hv10
    exact kStateI_mkM _ _ _ ⟨1, s.regs⟩ (Kd.R_mono (Kd.R_lower hr10 (M12.out.fits _ (.tail _ (.head _))).1) (fun _ _ => trivial))
  · have HA := Aside0.mk (show afterS i s = s from by unfold afterS; rw [if_neg (by rw [hgv]; decide), if_neg h3, if_neg h4])
    rw [hgv]
    go_wp2
    have M12 := Aside0.mk (Mem.set (A := [_, _]) (Mem.set (A := [_, _]) M11.out 0 (.int .i64 s.acc) rfl) 1 (.slice X9 s.regs.length y9) rfl)
    refine bodyPost_ret (results_ct rfl _ _ (w.heap.size + 2) 31 #[.int .i64 s.acc, .slice X9 s.regs.length y9] (0, 0) _ rfl (M12.out.blk (.tail _ (.tail _ (.head _)))) hu rfl (by kernel_rfl)) rfl ?_
    have HV := M12.out.val (.tail _ (.head _))
    refine ⟨_, congrArg Ending.returned (by rw [HOK.out]; rfl), ?_, M12.out.below⟩
    rw [HS.out, HA.out]
    obtain ⟨v10, hv10, hr10⟩ := kStateI_openM HV
    cases hv10
    exact kStateI_mkM _ _ _ s (Kd.R_mono (Kd.R_lower hr10 (M12.out.fits _ (.tail _ (.head _))).1) (fun _ _ => trivial))
end Go.Proofs.Ytcbaokflimdjnaa.Flow
end
section
namespace Go.Proofs.Ytcbaokflimdjnaa.Flow
open Go.RowKit Go.Proofs.YtcbaokflimdjnaaW.PrintWords Go.Proofs.YtcbaokflimdjnaaW.PrintMore Go.Proofs.Ytcbaokflimdjnaa.Law Go.Proofs.Ytcbaokflimdjnaa
set_option linter.unusedVariables false
set_option linter.unusedSimpArgs false
set_option autoImplicit false
structure FnOk (x : Image) (f : Func) : Prop where
  fl : x.funcs.length ≤ 16
  pr : 0 ≤ f.params ∧ f.params ≤ 4
  rg : f.params ≤ f.regs ∧ f.regs ≤ 40
  cl : f.caps.length ≤ 20
  kl : 1 ≤ f.code.length ∧ f.code.length ≤ 300
  hl : f.handlers.length ≤ 40
  code : ∀ i ∈ f.code, (1 ≤ i.op ∧ i.op ≤ 19) ∧ (0 ≤ i.a ∧ i.a ≤ 300) ∧ (0 ≤ i.b ∧ i.b ≤ 300)
  hand : ∀ h ∈ f.handlers, (0 ≤ h.from_ ∧ h.from_ ≤ 300) ∧ (0 ≤ h.to_ ∧ h.to_ ≤ 300) ∧ (0 ≤ h.target ∧ h.target ≤ 300)
theorem fn_ok {x : Image} (h : imgB x = true) {f : Func} (hf : f ∈ x.funcs) : FnOk x f := by
  have hfb := img_func h hf
  have hlen := img_len h
  unfold Img.fB Img.funcB Img.inB at hfb
  simp only [Bool.and_eq_true, decide_eq_true_eq, List.all_eq_true] at hfb
  have h2 : (sFunc f).f2.length = f.caps.length := List.length_map _
  have h3 : (sFunc f).f3.length = f.code.length := List.length_map _
  have h4 : (sFunc f).f4.length = f.handlers.length := List.length_map _
  rw [h2, h3, h4] at hfb
  have p0 : (sFunc f).f0 = f.params := rfl
  have p1 : (sFunc f).f1 = f.regs := rfl
  rw [p0, p1] at hfb
  refine ⟨by omega, by omega, by omega, by omega, by omega, by omega, fun i hi => ?_, fun q hq => ?_⟩
  · have k := hfb.2.2.2.2.2.2.1 (sIns i) (List.mem_map_of_mem hi)
    unfold Img.insB Img.inB at k
    simp only [Bool.and_eq_true, decide_eq_true_eq] at k
    exact ⟨k.1, k.2.1, k.2.2⟩
  · have k := hfb.2.2.2.2.2.2.2 (sHandler q) (List.mem_map_of_mem hq)
    unfold Img.hdB Img.inB at k
    simp only [Bool.and_eq_true, decide_eq_true_eq] at k
    exact ⟨k.1, k.2.1, k.2.2⟩
theorem Run.low {t : TypeId} {cs : Array Value} {d g lo : Nat} {w0 W : World} {r : Fl} {vl vr vt : Value} (h : Run t cs d g lo w0 W r vl vr vt) (hn : 0 < r.list.length) : lo ≤ W.heap.size := by
  obtain ⟨gl, cl, hgl, hb, hlt, _⟩ := Kd.R_form h.L hn
  omega
/-- A box that is new. -/
theorem _root_.Go.Proofs.Ytcbaokflimdjnaa.Law.Mem.boxed {w W w1 : World} {H : List Hold} (h : Mem w W H) {g : Nat} {cs : Array Value} {t : TypeId} (hg : g = W.heap.size) (hx : w1.heap[g]? = some (.cells cs t (0, 0))) (hb : Below W.heap.size W w1) : Mem w w1 (Hold.box g cs t :: H) := by
  have h2 := h.step hb
  refine ⟨h2.below, fun y hy => ?_, fun y hy => ?_, List.Pairwise.cons (fun b hb => .inl (by have := (h.fits b hb).2; rw [hg]; exact this)) h.apart⟩
  · rcases List.mem_cons.1 hy with rfl | hy
    · exact hx
    · exact h2.says y hy
  · rcases List.mem_cons.1 hy with rfl | hy
    · exact ⟨by show w.heap.size ≤ g; rw [hg]; exact h.below.size, by have := blk_lt hx; show g + 1 ≤ _; omega⟩
    · exact h2.fits y hy
end Go.Proofs.Ytcbaokflimdjnaa.Flow
end
