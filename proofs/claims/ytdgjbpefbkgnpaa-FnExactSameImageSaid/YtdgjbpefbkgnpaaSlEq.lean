/- Contracts of slices.Equal over structs: it tells whether two rows are the same. No condition beyond what the arguments read as. -/
import Derived.Test.YtdgjbpefbkgnpaaKinds
import Derived.Test.YtdgjbpefbkgnpaaLaw
import Derived.Test.YtdgjbpefbkgnpaaNum
import Derived.WalkKit
import Derived.KernelRfl
import Derived.Deep.LoopGhost
import Derived.Deep.QuietTactic
import Derived.BigQuiet
import Derived.RowKit3
import Derived.Deep.RegionWith
import Derived.Deep.RegionHeld3
import Derived.WalkLawsBesides
import Derived.Test.YtdgjbpefbkgnpaaWEqStruct
namespace Go.Proofs.Ytdgjbpefbkgnpaa
open Go.RowKit Go.Proofs.YtdgjbpefbkgnpaaW.PrintWords Go.Proofs.YtdgjbpefbkgnpaaW.PrintMore Go.Proofs.Ytdgjbpefbkgnpaa.Law Go.Proofs.Ytdgjbpefbkgnpaa.Num
set_option linter.unusedVariables false
set_option linter.unusedSimpArgs false
theorem run_eq0Cap (d : Nat) (x0 y0 : Bool) (x1 y1 : Int) (w : World) : (Op.equalIn (d + 2) 118 (.agg #[.bool x0, .int .i64 x1]) (.agg #[.bool y0, .int .i64 y1])).run Try.prog w = .ok ((x0 == y0) && (x1 == y1)) w := by
  refine eqA_of Try.underlying118 (by kernel_rfl) ?_
  refine eqf_cons (by rfl) (by go_simp; rfl) (by go_simp; rfl) (by go_simp) ?_
  exact eqf_last (by rfl) (by go_simp; rfl) (by go_simp; rfl) (by go_simp)
theorem run_eqCap (d : Nat) (x y : Cap) (w : World) : (Op.equalIn (d + 2) 118 (.agg #[.bool x.reg, .int .i64 x.index]) (.agg #[.bool y.reg, .int .i64 y.index])).run Try.prog w = .ok (decide (x = y)) w := by
  rw [run_eq0Cap]
  congr 1
  cases x; cases y
  rw [Bool.eq_iff_iff]
  simp [Cap.mk.injEq]
theorem run_eq0Ins (d : Nat) (x0 y0 : Int) (x1 y1 : Int) (x2 y2 : Int) (w : World) : (Op.equalIn (d + 2) 121 (.agg #[.int .i64 x0, .int .i64 x1, .int .i64 x2]) (.agg #[.int .i64 y0, .int .i64 y1, .int .i64 y2])).run Try.prog w = .ok ((x0 == y0) && ((x1 == y1) && (x2 == y2))) w := by
  refine eqA_of Try.underlying121 (by kernel_rfl) ?_
  refine eqf_cons (by rfl) (by go_simp; rfl) (by go_simp; rfl) (by go_simp) ?_
  refine eqf_cons (by rfl) (by go_simp; rfl) (by go_simp; rfl) (by go_simp) ?_
  exact eqf_last (by rfl) (by go_simp; rfl) (by go_simp; rfl) (by go_simp)
theorem run_eqIns (d : Nat) (x y : Ins) (w : World) : (Op.equalIn (d + 2) 121 (.agg #[.int .i64 x.op, .int .i64 x.a, .int .i64 x.b]) (.agg #[.int .i64 y.op, .int .i64 y.a, .int .i64 y.b])).run Try.prog w = .ok (decide (x = y)) w := by
  rw [run_eq0Ins]
  congr 1
  cases x; cases y
  rw [Bool.eq_iff_iff]
  simp [Ins.mk.injEq]
theorem run_eq0Handler (d : Nat) (x0 y0 : Int) (x1 y1 : Int) (x2 y2 : Int) (w : World) : (Op.equalIn (d + 2) 124 (.agg #[.int .i64 x0, .int .i64 x1, .int .i64 x2]) (.agg #[.int .i64 y0, .int .i64 y1, .int .i64 y2])).run Try.prog w = .ok ((x0 == y0) && ((x1 == y1) && (x2 == y2))) w := by
  refine eqA_of Try.underlying124 (by kernel_rfl) ?_
  refine eqf_cons (by rfl) (by go_simp; rfl) (by go_simp; rfl) (by go_simp) ?_
  refine eqf_cons (by rfl) (by go_simp; rfl) (by go_simp; rfl) (by go_simp) ?_
  exact eqf_last (by rfl) (by go_simp; rfl) (by go_simp; rfl) (by go_simp)
theorem run_eqHandler (d : Nat) (x y : Handler) (w : World) : (Op.equalIn (d + 2) 124 (.agg #[.int .i64 x.from_, .int .i64 x.to_, .int .i64 x.target]) (.agg #[.int .i64 y.from_, .int .i64 y.to_, .int .i64 y.target])).run Try.prog w = .ok (decide (x = y)) w := by
  rw [run_eq0Handler]
  congr 1
  cases x; cases y
  rw [Bool.eq_iff_iff]
  simp [Handler.mk.injEq]
theorem run_eq0Const (d : Nat) (x0 y0 : Int) (x1 y1 : Int) (x2 y2 : ByteArray) (w : World) : (Op.equalIn (d + 2) 105 (.agg #[.int .i64 x0, .int .u64 x1, .string x2]) (.agg #[.int .i64 y0, .int .u64 y1, .string y2])).run Try.prog w = .ok ((x0 == y0) && ((x1 == y1) && (x2.toList == y2.toList))) w := by
  refine eqA_of Try.underlying105 (by kernel_rfl) ?_
  refine eqf_cons (by rfl) (by go_simp; rfl) (by go_simp; rfl) (by go_simp) ?_
  refine eqf_cons (by rfl) (by go_simp; rfl) (by go_simp; rfl) (by go_simp) ?_
  exact eqf_last (by rfl) (by go_simp; rfl) (by go_simp; rfl) (by go_simp)
theorem run_eqConst (d : Nat) (x y : Const) (w : World) : (Op.equalIn (d + 2) 105 (.agg #[.int .i64 x.kind, .int .u64 x.num, .string x.text]) (.agg #[.int .i64 y.kind, .int .u64 y.num, .string y.text])).run Try.prog w = .ok (decide (x = y)) w := by
  rw [run_eq0Const]
  congr 1
  cases x; cases y
  rw [Bool.eq_iff_iff]
  simp [Const.mk.injEq]
  exact fun _ _ => ⟨fun h => bytes_ext h, fun h => by rw [h]⟩
attribute [local go_sem high] run_eqCap run_eqIns run_eqHandler run_eqConst
set_option maxHeartbeats 4000000 in
set_option maxRecDepth 100000 in
theorem sliceEqCap (A B : Option Addr) (c d : Nat) (l m : List Cap) (w : World) (hr : kCap.C w A l.length l) (hr2 : kCap.C w B m.length m) :
    Calls Try.prog 92 #[.slice A l.length c, .slice B m.length d] w fun e w' => e = .returned (.bool (decide (l = m))) ∧ Drawn0 w w' := by
  have hL : l.length ≤ 9223372036854775807 := hr.2.1
  have hu := Try.underlying118
  by_cases hlen : l.length = m.length
  · have b1 : ((l.length : Int) != (m.length : Int)) = false := by simp [hlen]
    have HR := Aside0.mk hr; have HR2 := Aside0.mk hr2; have HL := Aside0.mk hlen
    clear hr hr2 hlen
    go_enter Try.func92, Try.ntmps92
    go_wp2
    go_loopw [13] (fun v wr => ∃ j : Nat, v = .int .i64 j ∧ j ≤ l.length ∧ Aside0 (∀ i : Nat, i < j → el zCap l i = el zCap m i) ∧ Drawn0 w wr) (fun v _ => l.length - (intOf v).toNat)
    case atStart => exact ⟨0, rfl, by omega, ⟨fun i hi => by omega⟩, Drawn0.refl _⟩
    case round =>
      obtain ⟨j, rfl, hj, HE, HW⟩ := hrel
      obtain ⟨⟨n, rfl⟩⟩ := HW
      by_cases hlt : j < l.length
      · obtain ⟨a, rfl, _, x0, x1⟩ := Cap_at HR.out j hlt
        obtain ⟨a2, rfl, _, y0, y1⟩ := Cap_at HR2.out j (by have := HL.out; omega)
        have i1 : (0 : Int) ≤ (j : Int) := by omega
        have i2 : (j : Int) < (l.length : Int) := by omega
        have i3 : (j : Int) < (m.length : Int) := by have := HL.out; omega
        by_cases he : el zCap l j = el zCap m j
        · have b2 : decide (el zCap l j = el zCap m j) = true := by simpa using he
          have HE2 := Aside0.mk he
          clear he
          go_wp2
          go_quiet (fail)
          go_wp2
          go_roundw
          case rel => exact ⟨j + 1, by go_num, by omega, ⟨fun i hi => by rcases Nat.lt_succ_iff_lt_or_eq.1 hi with h | h; exact HE.out i h; rw [h]; exact HE2.out⟩, (by first | exact ⟨⟨_, rfl⟩⟩ | exact Drawn0.step ⟨⟨_, rfl⟩⟩ _)⟩
          case measure => simp [intOf]; omega
        · have b2 : decide (el zCap l j = el zCap m j) = false := by simpa using he
          have HE2 := Aside0.mk he
          clear he
          go_wp2
          go_quiet (fail)
          go_wp2
          go_ret
          exact ⟨by rw [decide_eq_false (fun h => HE2.out (by rw [h]))]; rfl, (by first | exact ⟨⟨_, rfl⟩⟩ | exact Drawn0.step ⟨⟨_, rfl⟩⟩ _)⟩
      · go_wp2
        go_ret
        exact ⟨by rw [decide_eq_true (el_ext zCap HL.out (fun i hi => HE.out i (by omega)))]; rfl, ⟨⟨_, rfl⟩⟩⟩
  · have b1 : ((l.length : Int) != (m.length : Int)) = true := by simp; omega
    have HL := Aside0.mk hlen
    clear hr hr2 hlen
    go_enter Try.func92, Try.ntmps92
    go_wp2
    go_ret
    exact ⟨by rw [decide_eq_false (fun h => HL.out (by rw [h]))]; rfl, Drawn0.refl _⟩
set_option maxHeartbeats 4000000 in
set_option maxRecDepth 100000 in
theorem sliceEqIns (A B : Option Addr) (c d : Nat) (l m : List Ins) (w : World) (hr : kIns.C w A l.length l) (hr2 : kIns.C w B m.length m) :
    Calls Try.prog 93 #[.slice A l.length c, .slice B m.length d] w fun e w' => e = .returned (.bool (decide (l = m))) ∧ Drawn0 w w' := by
  have hL : l.length ≤ 9223372036854775807 := hr.2.1
  have hu := Try.underlying121
  by_cases hlen : l.length = m.length
  · have b1 : ((l.length : Int) != (m.length : Int)) = false := by simp [hlen]
    have HR := Aside0.mk hr; have HR2 := Aside0.mk hr2; have HL := Aside0.mk hlen
    clear hr hr2 hlen
    go_enter Try.func93, Try.ntmps93
    go_wp2
    go_loopw [13] (fun v wr => ∃ j : Nat, v = .int .i64 j ∧ j ≤ l.length ∧ Aside0 (∀ i : Nat, i < j → el zIns l i = el zIns m i) ∧ Drawn0 w wr) (fun v _ => l.length - (intOf v).toNat)
    case atStart => exact ⟨0, rfl, by omega, ⟨fun i hi => by omega⟩, Drawn0.refl _⟩
    case round =>
      obtain ⟨j, rfl, hj, HE, HW⟩ := hrel
      obtain ⟨⟨n, rfl⟩⟩ := HW
      by_cases hlt : j < l.length
      · obtain ⟨a, rfl, _, x0, x1, x2⟩ := Ins_at HR.out j hlt
        obtain ⟨a2, rfl, _, y0, y1, y2⟩ := Ins_at HR2.out j (by have := HL.out; omega)
        have i1 : (0 : Int) ≤ (j : Int) := by omega
        have i2 : (j : Int) < (l.length : Int) := by omega
        have i3 : (j : Int) < (m.length : Int) := by have := HL.out; omega
        by_cases he : el zIns l j = el zIns m j
        · have b2 : decide (el zIns l j = el zIns m j) = true := by simpa using he
          have HE2 := Aside0.mk he
          clear he
          go_wp2
          go_quiet (fail)
          go_wp2
          go_roundw
          case rel => exact ⟨j + 1, by go_num, by omega, ⟨fun i hi => by rcases Nat.lt_succ_iff_lt_or_eq.1 hi with h | h; exact HE.out i h; rw [h]; exact HE2.out⟩, (by first | exact ⟨⟨_, rfl⟩⟩ | exact Drawn0.step ⟨⟨_, rfl⟩⟩ _)⟩
          case measure => simp [intOf]; omega
        · have b2 : decide (el zIns l j = el zIns m j) = false := by simpa using he
          have HE2 := Aside0.mk he
          clear he
          go_wp2
          go_quiet (fail)
          go_wp2
          go_ret
          exact ⟨by rw [decide_eq_false (fun h => HE2.out (by rw [h]))]; rfl, (by first | exact ⟨⟨_, rfl⟩⟩ | exact Drawn0.step ⟨⟨_, rfl⟩⟩ _)⟩
      · go_wp2
        go_ret
        exact ⟨by rw [decide_eq_true (el_ext zIns HL.out (fun i hi => HE.out i (by omega)))]; rfl, ⟨⟨_, rfl⟩⟩⟩
  · have b1 : ((l.length : Int) != (m.length : Int)) = true := by simp; omega
    have HL := Aside0.mk hlen
    clear hr hr2 hlen
    go_enter Try.func93, Try.ntmps93
    go_wp2
    go_ret
    exact ⟨by rw [decide_eq_false (fun h => HL.out (by rw [h]))]; rfl, Drawn0.refl _⟩
set_option maxHeartbeats 4000000 in
set_option maxRecDepth 100000 in
theorem sliceEqHandler (A B : Option Addr) (c d : Nat) (l m : List Handler) (w : World) (hr : kHandler.C w A l.length l) (hr2 : kHandler.C w B m.length m) :
    Calls Try.prog 94 #[.slice A l.length c, .slice B m.length d] w fun e w' => e = .returned (.bool (decide (l = m))) ∧ Drawn0 w w' := by
  have hL : l.length ≤ 9223372036854775807 := hr.2.1
  have hu := Try.underlying124
  by_cases hlen : l.length = m.length
  · have b1 : ((l.length : Int) != (m.length : Int)) = false := by simp [hlen]
    have HR := Aside0.mk hr; have HR2 := Aside0.mk hr2; have HL := Aside0.mk hlen
    clear hr hr2 hlen
    go_enter Try.func94, Try.ntmps94
    go_wp2
    go_loopw [13] (fun v wr => ∃ j : Nat, v = .int .i64 j ∧ j ≤ l.length ∧ Aside0 (∀ i : Nat, i < j → el zHandler l i = el zHandler m i) ∧ Drawn0 w wr) (fun v _ => l.length - (intOf v).toNat)
    case atStart => exact ⟨0, rfl, by omega, ⟨fun i hi => by omega⟩, Drawn0.refl _⟩
    case round =>
      obtain ⟨j, rfl, hj, HE, HW⟩ := hrel
      obtain ⟨⟨n, rfl⟩⟩ := HW
      by_cases hlt : j < l.length
      · obtain ⟨a, rfl, _, x0, x1, x2⟩ := Handler_at HR.out j hlt
        obtain ⟨a2, rfl, _, y0, y1, y2⟩ := Handler_at HR2.out j (by have := HL.out; omega)
        have i1 : (0 : Int) ≤ (j : Int) := by omega
        have i2 : (j : Int) < (l.length : Int) := by omega
        have i3 : (j : Int) < (m.length : Int) := by have := HL.out; omega
        by_cases he : el zHandler l j = el zHandler m j
        · have b2 : decide (el zHandler l j = el zHandler m j) = true := by simpa using he
          have HE2 := Aside0.mk he
          clear he
          go_wp2
          go_quiet (fail)
          go_wp2
          go_roundw
          case rel => exact ⟨j + 1, by go_num, by omega, ⟨fun i hi => by rcases Nat.lt_succ_iff_lt_or_eq.1 hi with h | h; exact HE.out i h; rw [h]; exact HE2.out⟩, (by first | exact ⟨⟨_, rfl⟩⟩ | exact Drawn0.step ⟨⟨_, rfl⟩⟩ _)⟩
          case measure => simp [intOf]; omega
        · have b2 : decide (el zHandler l j = el zHandler m j) = false := by simpa using he
          have HE2 := Aside0.mk he
          clear he
          go_wp2
          go_quiet (fail)
          go_wp2
          go_ret
          exact ⟨by rw [decide_eq_false (fun h => HE2.out (by rw [h]))]; rfl, (by first | exact ⟨⟨_, rfl⟩⟩ | exact Drawn0.step ⟨⟨_, rfl⟩⟩ _)⟩
      · go_wp2
        go_ret
        exact ⟨by rw [decide_eq_true (el_ext zHandler HL.out (fun i hi => HE.out i (by omega)))]; rfl, ⟨⟨_, rfl⟩⟩⟩
  · have b1 : ((l.length : Int) != (m.length : Int)) = true := by simp; omega
    have HL := Aside0.mk hlen
    clear hr hr2 hlen
    go_enter Try.func94, Try.ntmps94
    go_wp2
    go_ret
    exact ⟨by rw [decide_eq_false (fun h => HL.out (by rw [h]))]; rfl, Drawn0.refl _⟩
set_option maxHeartbeats 4000000 in
set_option maxRecDepth 100000 in
theorem sliceEqConst (A B : Option Addr) (c d : Nat) (l m : List Const) (w : World) (hr : kConst.C w A l.length l) (hr2 : kConst.C w B m.length m) :
    Calls Try.prog 89 #[.slice A l.length c, .slice B m.length d] w fun e w' => e = .returned (.bool (decide (l = m))) ∧ Drawn0 w w' := by
  have hL : l.length ≤ 9223372036854775807 := hr.2.1
  have hu := Try.underlying105
  by_cases hlen : l.length = m.length
  · have b1 : ((l.length : Int) != (m.length : Int)) = false := by simp [hlen]
    have HR := Aside0.mk hr; have HR2 := Aside0.mk hr2; have HL := Aside0.mk hlen
    clear hr hr2 hlen
    go_enter Try.func89, Try.ntmps89
    go_wp2
    go_loopw [13] (fun v wr => ∃ j : Nat, v = .int .i64 j ∧ j ≤ l.length ∧ Aside0 (∀ i : Nat, i < j → el zConst l i = el zConst m i) ∧ Drawn0 w wr) (fun v _ => l.length - (intOf v).toNat)
    case atStart => exact ⟨0, rfl, by omega, ⟨fun i hi => by omega⟩, Drawn0.refl _⟩
    case round =>
      obtain ⟨j, rfl, hj, HE, HW⟩ := hrel
      obtain ⟨⟨n, rfl⟩⟩ := HW
      by_cases hlt : j < l.length
      · obtain ⟨a, rfl, _, x0, x1, x2⟩ := Const_at HR.out j hlt
        obtain ⟨a2, rfl, _, y0, y1, y2⟩ := Const_at HR2.out j (by have := HL.out; omega)
        have i1 : (0 : Int) ≤ (j : Int) := by omega
        have i2 : (j : Int) < (l.length : Int) := by omega
        have i3 : (j : Int) < (m.length : Int) := by have := HL.out; omega
        by_cases he : el zConst l j = el zConst m j
        · have b2 : decide (el zConst l j = el zConst m j) = true := by simpa using he
          have HE2 := Aside0.mk he
          clear he
          go_wp2
          go_quiet (fail)
          go_wp2
          go_roundw
          case rel => exact ⟨j + 1, by go_num, by omega, ⟨fun i hi => by rcases Nat.lt_succ_iff_lt_or_eq.1 hi with h | h; exact HE.out i h; rw [h]; exact HE2.out⟩, (by first | exact ⟨⟨_, rfl⟩⟩ | exact Drawn0.step ⟨⟨_, rfl⟩⟩ _)⟩
          case measure => simp [intOf]; omega
        · have b2 : decide (el zConst l j = el zConst m j) = false := by simpa using he
          have HE2 := Aside0.mk he
          clear he
          go_wp2
          go_quiet (fail)
          go_wp2
          go_ret
          exact ⟨by rw [decide_eq_false (fun h => HE2.out (by rw [h]))]; rfl, (by first | exact ⟨⟨_, rfl⟩⟩ | exact Drawn0.step ⟨⟨_, rfl⟩⟩ _)⟩
      · go_wp2
        go_ret
        exact ⟨by rw [decide_eq_true (el_ext zConst HL.out (fun i hi => HE.out i (by omega)))]; rfl, ⟨⟨_, rfl⟩⟩⟩
  · have b1 : ((l.length : Int) != (m.length : Int)) = true := by simp; omega
    have HL := Aside0.mk hlen
    clear hr hr2 hlen
    go_enter Try.func89, Try.ntmps89
    go_wp2
    go_ret
    exact ⟨by rw [decide_eq_false (fun h => HL.out (by rw [h]))]; rfl, Drawn0.refl _⟩
end Go.Proofs.Ytdgjbpefbkgnpaa
