/- The row of 'FnExactConstOf': for every input the law returns true, and each argument reads behind the call as it read before. No condition. -/
import Derived.Deep.RegionWith
import Derived.Deep.RegionHeld3
import Derived.Deep.DeepCutAuto
import Derived.ProofKit
import Derived.OpenShut
import Derived.ChangeOld
import Derived.ChangeShapes
import Derived.WideShapes
import Derived.ChangeArms
import Derived.DataReads
import Derived.DataElems
import Derived.Test.YtlhfhfamifmijaaRows
import Derived.WalkKit
import Derived.ShutString
import Derived.Below
import Derived.SizedLaws
import Derived.Test.YtlhfhfamifmijaaC2
import Derived.Test.YtlhfhfamifmijaaK16
import Derived.Test.YtlhfhfamifmijaaK15
import Derived.Test.YtlhfhfamifmijaaK14
import Derived.Test.YtlhfhfamifmijaaK13
import Derived.Test.YtlhfhfamifmijaaK12
import Derived.Test.YtlhfhfamifmijaaK1
import Derived.Test.YtlhfhfamifmijaaC1
import Derived.Test.YtlhfhfamifmijaaK2
import Derived.Test.YtlhfhfamifmijaaK3
import Derived.Test.YtlhfhfamifmijaaK4
import Derived.Test.YtlhfhfamifmijaaK5
import Derived.Test.YtlhfhfamifmijaaK6
import Derived.Test.YtlhfhfamifmijaaK7
import Derived.Test.YtlhfhfamifmijaaK10
import Derived.Test.YtlhfhfamifmijaaK11
import Derived.Test.YtlhfhfamifmijaaK8
import Derived.Test.YtlhfhfamifmijaaK9
import Derived.Test.YtlhfhfamifmijaaK22
import Derived.Test.YtlhfhfamifmijaaK21
import Derived.Test.YtlhfhfamifmijaaK20
import Derived.Test.YtlhfhfamifmijaaK17
import Derived.Test.YtlhfhfamifmijaaK18
import Derived.Test.YtlhfhfamifmijaaK19
section
namespace Go.Proofs.Ytlhfhfamifmijaa.QFnExactConstOf
open Go.RowKit Go.Proofs.YtlhfhfamifmijaaW.PrintWords Go.Proofs.YtlhfhfamifmijaaW.PrintLast Go.Proofs.YtlhfhfamifmijaaW.PrintMore
attribute [local go_sem] max_two min_two max_three min_three max_four min_four max2_mx min2_mn   -- for this text's walks alone
set_option linter.unusedVariables false
set_option linter.unusedSimpArgs false
def impl_numberValue.f (a0 : Int) : Option (Int × Int × ByteArray × Int) := some (2, a0, (⟨#[]⟩ : ByteArray), 0)
set_option maxHeartbeats 8000000 in
set_option maxRecDepth 100000 in
theorem impl_numberValue.calls (a0 : Int) (r1 : Int) (r2 : Int) (r3 : ByteArray) (r4 : Int) (w : World) (h : impl_numberValue.f a0 = some (r1, r2, r3, r4)) :
    Calls Try.prog 175 #[.int .u64 a0] w fun e w' => e = .returned (.agg #[.int .i64 r1, .int .u64 r2, .string r3, .int .i64 r4]) ∧ Below w.heap.size w w' := by
  have hu75 := Try.underlying75
  have HB := Aside0.mk (Below.refl w.heap.size w)
  have H : (some (2, a0, (⟨#[]⟩ : ByteArray), 0)) = some (r1, r2, r3, r4) := h
  clear h
  simp only [Option.some.injEq, Prod.mk.injEq] at H
  obtain ⟨rfl, rfl, rfl, rfl⟩ := H
  go_enter Try.func175, Try.ntmps175
  go_wp2_with (first | ((with_reducible refine gate_dst (N := 2) rfl ?_); refine box_event ?hg (N := 2) ?hd (cs := #[.int .i64 0, .int .u64 0, .string (⟨#[]⟩ : ByteArray), .int .i64 0]) (t := 75) ?hr ?_; (case hd => rfl); (case hg => rfl); (case hr => first | (go_simp; done) | (go_simp; rfl)); intro gb246 hg w2 hbox hb; have n0_ := Aside0.mk (below_step (by repeat (first | (with_reducible first | exact HB.out | apply below_alloc | apply pw_below_drewN | apply below_drew1) | exact HB.out)) hb); have n1_ := Aside0.mk (hbox); have n2_ := Aside0.mk ((by rw [hg]; exact (below_size (by repeat (first | (with_reducible first | exact HB.out | apply below_alloc | apply pw_below_drewN | apply below_drew1) | exact HB.out))) : w.heap.size ≤ gb246)); have n3_ := Aside0.mk ((by rw [hg]; exact (below_size (by repeat (first | (with_reducible first | exact HB.out | apply below_alloc | apply pw_below_drewN | apply below_drew1) | exact HB.out))) : w.heap.size ≤ gb246)); clear HB; have HB := n0_; have BK246 := n1_; have GW246 := n2_; have GE246 := n3_; clear n0_ n1_ n2_ n3_; clear hb hbox hg; have hcz3_0 : w2.cell? ⟨gb246, 0, none⟩ = some (.int .i64 0) := (blk_cell BK246.out 0).trans rfl; have hcz3_1 : w2.cell? ⟨gb246, 1, none⟩ = some (.int .u64 0) := (blk_cell BK246.out 1).trans rfl; have hcz3_2 : w2.cell? ⟨gb246, 2, none⟩ = some (.string (⟨#[]⟩ : ByteArray)) := (blk_cell BK246.out 2).trans rfl; have hcz3_3 : w2.cell? ⟨gb246, 3, none⟩ = some (.int .i64 0) := (blk_cell BK246.out 3).trans rfl; have hfz3_0 := blk_frozen BK246.out 0; have hfz3_1 := blk_frozen BK246.out 1; have hfz3_2 := blk_frozen BK246.out 2; have hfz3_3 := blk_frozen BK246.out 3))
  refine bodyPost_ret (results_cell_row rfl _ _ gb246 75 #[.int .i64 2, .int .u64 a0, .string (⟨#[]⟩ : ByteArray), .int .i64 0] (0, 0) _ rfl (by (with_reducible repeat (first | refine blk_drewN ?_ _ | refine blk_drew ?_ | refine blk_alloc ?_ _)); refine blk_put (cs := #[.int .i64 2, .int .u64 a0, .string (⟨#[]⟩ : ByteArray), .int .i64 0]) ?_ 3 _ rfl; (with_reducible repeat (first | refine blk_drewN ?_ _ | refine blk_drew ?_ | refine blk_alloc ?_ _)); refine blk_put (cs := #[.int .i64 2, .int .u64 a0, .string (⟨#[]⟩ : ByteArray), .int .i64 0]) ?_ 2 _ rfl; (with_reducible repeat (first | refine blk_drewN ?_ _ | refine blk_drew ?_ | refine blk_alloc ?_ _)); refine blk_put (cs := #[.int .i64 2, .int .u64 0, .string (⟨#[]⟩ : ByteArray), .int .i64 0]) ?_ 1 _ rfl; (with_reducible repeat (first | refine blk_drewN ?_ _ | refine blk_drew ?_ | refine blk_alloc ?_ _)); refine blk_put (cs := #[.int .i64 0, .int .u64 0, .string (⟨#[]⟩ : ByteArray), .int .i64 0]) ?_ 0 _ rfl; (with_reducible repeat (first | refine blk_drewN ?_ _ | refine blk_drew ?_ | refine blk_alloc ?_ _)); exact BK246.out) Try.underlying75 rfl (by kernel_rfl)) rfl ?_
  exact ⟨by first | rfl | (simp; done) | (simp [errW_none, errW_some] <;> rfl) | (simp [*, errW_none, errW_some] <;> rfl) | (simp [bne, List.isEmpty_iff]; done) | (rw [Bool.eq_iff_iff]; simp), by repeat (first | (with_reducible first | exact HB.out | apply below_alloc | apply pw_below_drewN | apply below_drew1 | refine below_set ?_ GE246.out) | exact HB.out)⟩
def impl_textValue.f (a0 : ByteArray) : Option (Int × Int × ByteArray × Int) := some (3, 0, a0, 0)
set_option maxHeartbeats 8000000 in
set_option maxRecDepth 100000 in
theorem impl_textValue.calls (a0 : ByteArray) (r1 : Int) (r2 : Int) (r3 : ByteArray) (r4 : Int) (w : World) (h : impl_textValue.f a0 = some (r1, r2, r3, r4)) :
    Calls Try.prog 176 #[.string a0] w fun e w' => e = .returned (.agg #[.int .i64 r1, .int .u64 r2, .string r3, .int .i64 r4]) ∧ Below w.heap.size w w' := by
  have hu75 := Try.underlying75
  have HB := Aside0.mk (Below.refl w.heap.size w)
  have H : (some (3, 0, a0, 0)) = some (r1, r2, r3, r4) := h
  clear h
  simp only [Option.some.injEq, Prod.mk.injEq] at H
  obtain ⟨rfl, rfl, rfl, rfl⟩ := H
  go_enter Try.func176, Try.ntmps176
  go_wp2_with (first | ((with_reducible refine gate_dst (N := 2) rfl ?_); refine box_event ?hg (N := 2) ?hd (cs := #[.int .i64 0, .int .u64 0, .string (⟨#[]⟩ : ByteArray), .int .i64 0]) (t := 75) ?hr ?_; (case hd => rfl); (case hg => rfl); (case hr => first | (go_simp; done) | (go_simp; rfl)); intro gb247 hg w2 hbox hb; have n0_ := Aside0.mk (below_step (by repeat (first | (with_reducible first | exact HB.out | apply below_alloc | apply pw_below_drewN | apply below_drew1) | exact HB.out)) hb); have n1_ := Aside0.mk (hbox); have n2_ := Aside0.mk ((by rw [hg]; exact (below_size (by repeat (first | (with_reducible first | exact HB.out | apply below_alloc | apply pw_below_drewN | apply below_drew1) | exact HB.out))) : w.heap.size ≤ gb247)); have n3_ := Aside0.mk ((by rw [hg]; exact (below_size (by repeat (first | (with_reducible first | exact HB.out | apply below_alloc | apply pw_below_drewN | apply below_drew1) | exact HB.out))) : w.heap.size ≤ gb247)); clear HB; have HB := n0_; have BK247 := n1_; have GW247 := n2_; have GE247 := n3_; clear n0_ n1_ n2_ n3_; clear hb hbox hg; have hcz3_0 : w2.cell? ⟨gb247, 0, none⟩ = some (.int .i64 0) := (blk_cell BK247.out 0).trans rfl; have hcz3_1 : w2.cell? ⟨gb247, 1, none⟩ = some (.int .u64 0) := (blk_cell BK247.out 1).trans rfl; have hcz3_2 : w2.cell? ⟨gb247, 2, none⟩ = some (.string (⟨#[]⟩ : ByteArray)) := (blk_cell BK247.out 2).trans rfl; have hcz3_3 : w2.cell? ⟨gb247, 3, none⟩ = some (.int .i64 0) := (blk_cell BK247.out 3).trans rfl; have hfz3_0 := blk_frozen BK247.out 0; have hfz3_1 := blk_frozen BK247.out 1; have hfz3_2 := blk_frozen BK247.out 2; have hfz3_3 := blk_frozen BK247.out 3))
  refine bodyPost_ret (results_cell_row rfl _ _ gb247 75 #[.int .i64 3, .int .u64 0, .string a0, .int .i64 0] (0, 0) _ rfl (by (with_reducible repeat (first | refine blk_drewN ?_ _ | refine blk_drew ?_ | refine blk_alloc ?_ _)); refine blk_put (cs := #[.int .i64 3, .int .u64 0, .string a0, .int .i64 0]) ?_ 3 _ rfl; (with_reducible repeat (first | refine blk_drewN ?_ _ | refine blk_drew ?_ | refine blk_alloc ?_ _)); refine blk_put (cs := #[.int .i64 3, .int .u64 0, .string (⟨#[]⟩ : ByteArray), .int .i64 0]) ?_ 2 _ rfl; (with_reducible repeat (first | refine blk_drewN ?_ _ | refine blk_drew ?_ | refine blk_alloc ?_ _)); refine blk_put (cs := #[.int .i64 3, .int .u64 0, .string (⟨#[]⟩ : ByteArray), .int .i64 0]) ?_ 1 _ rfl; (with_reducible repeat (first | refine blk_drewN ?_ _ | refine blk_drew ?_ | refine blk_alloc ?_ _)); refine blk_put (cs := #[.int .i64 0, .int .u64 0, .string (⟨#[]⟩ : ByteArray), .int .i64 0]) ?_ 0 _ rfl; (with_reducible repeat (first | refine blk_drewN ?_ _ | refine blk_drew ?_ | refine blk_alloc ?_ _)); exact BK247.out) Try.underlying75 rfl (by kernel_rfl)) rfl ?_
  exact ⟨by first | rfl | (simp; done) | (simp [errW_none, errW_some] <;> rfl) | (simp [*, errW_none, errW_some] <;> rfl) | (simp [bne, List.isEmpty_iff]; done) | (rw [Bool.eq_iff_iff]; simp), by repeat (first | (with_reducible first | exact HB.out | apply below_alloc | apply pw_below_drewN | apply below_drew1 | refine below_set ?_ GE247.out) | exact HB.out)⟩
def impl_boolValue.f (a0 : Bool) : Option (Int × Int × ByteArray × Int) := if a0 = true then (some (1, 1, (⟨#[]⟩ : ByteArray), 0)) else (some (1, 0, (⟨#[]⟩ : ByteArray), 0))
set_option maxHeartbeats 8000000 in
set_option maxRecDepth 100000 in
theorem impl_boolValue.calls (a0 : Bool) (r1 : Int) (r2 : Int) (r3 : ByteArray) (r4 : Int) (w : World) (h : impl_boolValue.f a0 = some (r1, r2, r3, r4)) :
    Calls Try.prog 177 #[.bool a0] w fun e w' => e = .returned (.agg #[.int .i64 r1, .int .u64 r2, .string r3, .int .i64 r4]) ∧ Below w.heap.size w w' := by
  have hu75 := Try.underlying75
  have HB := Aside0.mk (Below.refl w.heap.size w)
  have H : (if a0 = true then (some (1, 1, (⟨#[]⟩ : ByteArray), 0)) else (some (1, 0, (⟨#[]⟩ : ByteArray), 0))) = some (r1, r2, r3, r4) := h
  clear h
  by_cases c2 : a0 = true
  · subst c2
    have H1 : (some (1, 1, (⟨#[]⟩ : ByteArray), 0)) = some (r1, r2, r3, r4) := by rw [if_pos rfl] at H; exact H
    clear H
    have H := H1
    clear H1
    simp only [Option.some.injEq, Prod.mk.injEq] at H
    obtain ⟨rfl, rfl, rfl, rfl⟩ := H
    go_enter Try.func177, Try.ntmps177
    go_wp2_with (first | ((with_reducible refine gate_dst (N := 2) rfl ?_); refine box_event ?hg (N := 2) ?hd (cs := #[.int .i64 0, .int .u64 0, .string (⟨#[]⟩ : ByteArray), .int .i64 0]) (t := 75) ?hr ?_; (case hd => rfl); (case hg => rfl); (case hr => first | (go_simp; done) | (go_simp; rfl)); intro gb248 hg w3 hbox hb; have n0_ := Aside0.mk (below_step (by repeat (first | (with_reducible first | exact HB.out | apply below_alloc | apply pw_below_drewN | apply below_drew1) | exact HB.out)) hb); have n1_ := Aside0.mk (hbox); have n2_ := Aside0.mk ((by rw [hg]; exact (below_size (by repeat (first | (with_reducible first | exact HB.out | apply below_alloc | apply pw_below_drewN | apply below_drew1) | exact HB.out))) : w.heap.size ≤ gb248)); have n3_ := Aside0.mk ((by rw [hg]; exact (below_size (by repeat (first | (with_reducible first | exact HB.out | apply below_alloc | apply pw_below_drewN | apply below_drew1) | exact HB.out))) : w.heap.size ≤ gb248)); clear HB; have HB := n0_; have BK248 := n1_; have GW248 := n2_; have GE248 := n3_; clear n0_ n1_ n2_ n3_; clear hb hbox hg; have hcz4_0 : w3.cell? ⟨gb248, 0, none⟩ = some (.int .i64 0) := (blk_cell BK248.out 0).trans rfl; have hcz4_1 : w3.cell? ⟨gb248, 1, none⟩ = some (.int .u64 0) := (blk_cell BK248.out 1).trans rfl; have hcz4_2 : w3.cell? ⟨gb248, 2, none⟩ = some (.string (⟨#[]⟩ : ByteArray)) := (blk_cell BK248.out 2).trans rfl; have hcz4_3 : w3.cell? ⟨gb248, 3, none⟩ = some (.int .i64 0) := (blk_cell BK248.out 3).trans rfl; have hfz4_0 := blk_frozen BK248.out 0; have hfz4_1 := blk_frozen BK248.out 1; have hfz4_2 := blk_frozen BK248.out 2; have hfz4_3 := blk_frozen BK248.out 3))
    refine bodyPost_ret (results_cell_row rfl _ _ gb248 75 #[.int .i64 1, .int .u64 1, .string (⟨#[]⟩ : ByteArray), .int .i64 0] (0, 0) _ rfl (by (with_reducible repeat (first | refine blk_drewN ?_ _ | refine blk_drew ?_ | refine blk_alloc ?_ _)); refine blk_put (cs := #[.int .i64 1, .int .u64 1, .string (⟨#[]⟩ : ByteArray), .int .i64 0]) ?_ 3 _ rfl; (with_reducible repeat (first | refine blk_drewN ?_ _ | refine blk_drew ?_ | refine blk_alloc ?_ _)); refine blk_put (cs := #[.int .i64 1, .int .u64 1, .string (⟨#[]⟩ : ByteArray), .int .i64 0]) ?_ 2 _ rfl; (with_reducible repeat (first | refine blk_drewN ?_ _ | refine blk_drew ?_ | refine blk_alloc ?_ _)); refine blk_put (cs := #[.int .i64 1, .int .u64 0, .string (⟨#[]⟩ : ByteArray), .int .i64 0]) ?_ 1 _ rfl; (with_reducible repeat (first | refine blk_drewN ?_ _ | refine blk_drew ?_ | refine blk_alloc ?_ _)); refine blk_put (cs := #[.int .i64 0, .int .u64 0, .string (⟨#[]⟩ : ByteArray), .int .i64 0]) ?_ 0 _ rfl; (with_reducible repeat (first | refine blk_drewN ?_ _ | refine blk_drew ?_ | refine blk_alloc ?_ _)); exact BK248.out) Try.underlying75 rfl (by kernel_rfl)) rfl ?_
    exact ⟨by first | rfl | (simp; done) | (simp [errW_none, errW_some] <;> rfl) | (simp [*, errW_none, errW_some] <;> rfl) | (simp [bne, List.isEmpty_iff]; done) | (rw [Bool.eq_iff_iff]; simp), by repeat (first | (with_reducible first | exact HB.out | apply below_alloc | apply pw_below_drewN | apply below_drew1 | refine below_set ?_ GE248.out) | exact HB.out)⟩
  · replace c2 := Bool.eq_false_iff.mpr c2
    subst c2
    have H1 : (some (1, 0, (⟨#[]⟩ : ByteArray), 0)) = some (r1, r2, r3, r4) := by rw [if_neg (show ¬ (false = true) by decide)] at H; exact H
    clear H
    have H := H1
    clear H1
    simp only [Option.some.injEq, Prod.mk.injEq] at H
    obtain ⟨rfl, rfl, rfl, rfl⟩ := H
    go_enter Try.func177, Try.ntmps177
    go_wp2_with (first | ((with_reducible refine gate_dst (N := 2) rfl ?_); refine box_event ?hg (N := 2) ?hd (cs := #[.int .i64 0, .int .u64 0, .string (⟨#[]⟩ : ByteArray), .int .i64 0]) (t := 75) ?hr ?_; (case hd => rfl); (case hg => rfl); (case hr => first | (go_simp; done) | (go_simp; rfl)); intro gb248 hg w5 hbox hb; have n0_ := Aside0.mk (below_step (by repeat (first | (with_reducible first | exact HB.out | apply below_alloc | apply pw_below_drewN | apply below_drew1) | exact HB.out)) hb); have n1_ := Aside0.mk (hbox); have n2_ := Aside0.mk ((by rw [hg]; exact (below_size (by repeat (first | (with_reducible first | exact HB.out | apply below_alloc | apply pw_below_drewN | apply below_drew1) | exact HB.out))) : w.heap.size ≤ gb248)); have n3_ := Aside0.mk ((by rw [hg]; exact (below_size (by repeat (first | (with_reducible first | exact HB.out | apply below_alloc | apply pw_below_drewN | apply below_drew1) | exact HB.out))) : w.heap.size ≤ gb248)); clear HB; have HB := n0_; have BK248 := n1_; have GW248 := n2_; have GE248 := n3_; clear n0_ n1_ n2_ n3_; clear hb hbox hg; have hcz6_0 : w5.cell? ⟨gb248, 0, none⟩ = some (.int .i64 0) := (blk_cell BK248.out 0).trans rfl; have hcz6_1 : w5.cell? ⟨gb248, 1, none⟩ = some (.int .u64 0) := (blk_cell BK248.out 1).trans rfl; have hcz6_2 : w5.cell? ⟨gb248, 2, none⟩ = some (.string (⟨#[]⟩ : ByteArray)) := (blk_cell BK248.out 2).trans rfl; have hcz6_3 : w5.cell? ⟨gb248, 3, none⟩ = some (.int .i64 0) := (blk_cell BK248.out 3).trans rfl; have hfz6_0 := blk_frozen BK248.out 0; have hfz6_1 := blk_frozen BK248.out 1; have hfz6_2 := blk_frozen BK248.out 2; have hfz6_3 := blk_frozen BK248.out 3))
    refine bodyPost_ret (results_cell_row rfl _ _ gb248 75 #[.int .i64 1, .int .u64 0, .string (⟨#[]⟩ : ByteArray), .int .i64 0] (0, 0) _ rfl (by (with_reducible repeat (first | refine blk_drewN ?_ _ | refine blk_drew ?_ | refine blk_alloc ?_ _)); refine blk_put (cs := #[.int .i64 1, .int .u64 0, .string (⟨#[]⟩ : ByteArray), .int .i64 0]) ?_ 3 _ rfl; (with_reducible repeat (first | refine blk_drewN ?_ _ | refine blk_drew ?_ | refine blk_alloc ?_ _)); refine blk_put (cs := #[.int .i64 1, .int .u64 0, .string (⟨#[]⟩ : ByteArray), .int .i64 0]) ?_ 2 _ rfl; (with_reducible repeat (first | refine blk_drewN ?_ _ | refine blk_drew ?_ | refine blk_alloc ?_ _)); refine blk_put (cs := #[.int .i64 1, .int .u64 0, .string (⟨#[]⟩ : ByteArray), .int .i64 0]) ?_ 1 _ rfl; (with_reducible repeat (first | refine blk_drewN ?_ _ | refine blk_drew ?_ | refine blk_alloc ?_ _)); refine blk_put (cs := #[.int .i64 0, .int .u64 0, .string (⟨#[]⟩ : ByteArray), .int .i64 0]) ?_ 0 _ rfl; (with_reducible repeat (first | refine blk_drewN ?_ _ | refine blk_drew ?_ | refine blk_alloc ?_ _)); exact BK248.out) Try.underlying75 rfl (by kernel_rfl)) rfl ?_
    exact ⟨by first | rfl | (simp; done) | (simp [errW_none, errW_some] <;> rfl) | (simp [*, errW_none, errW_some] <;> rfl) | (simp [bne, List.isEmpty_iff]; done) | (rw [Bool.eq_iff_iff]; simp), by repeat (first | (with_reducible first | exact HB.out | apply below_alloc | apply pw_below_drewN | apply below_drew1 | refine below_set ?_ GE248.out) | exact HB.out)⟩
def impl_constOf.f (a0_0 : Int) (a0_1 : Int) (a0_2 : Int) (a0_3 : Int) (l0_4 : List Int) (l0_5 : List ByteArray) (a0_6 : Int) (a0_7 : Int) : Option (Int × Int × ByteArray × Int × Bool) := if a0_0 = 1 then ((impl_numberValue.f a0_6).bind fun bt251 => (some (bt251.1, bt251.2.1, bt251.2.2.1, bt251.2.2.2, true))) else (if a0_0 = 2 then (if 0 < (l0_5.length : Int) then ((impl_textValue.f (rdOf ByteArray.empty l0_5 0)).bind fun bt256 => (some (bt256.1, bt256.2.1, bt256.2.2.1, bt256.2.2.2, true))) else (none)) else (if a0_0 = 3 then ((impl_boolValue.f true).bind fun bt260 => (some (bt260.1, bt260.2.1, bt260.2.2.1, bt260.2.2.2, true))) else (if a0_0 = 4 then ((impl_boolValue.f false).bind fun bt264 => (some (bt264.1, bt264.2.1, bt264.2.2.1, bt264.2.2.2, true))) else (if a0_0 = 5 then (some (0, 0, (⟨#[]⟩ : ByteArray), 0, true)) else (some (0, 0, (⟨#[]⟩ : ByteArray), 0, false))))))
set_option maxHeartbeats 8000000 in
set_option maxRecDepth 100000 in
theorem impl_constOf.calls (a0_0 : Int) (a0_1 : Int) (a0_2 : Int) (a0_3 : Int) (A0_4 : Option Addr) (c0_4 : Nat) (l0_4 : List Int) (A0_5 : Option Addr) (c0_5 : Nat) (l0_5 : List ByteArray) (a0_6 : Int) (a0_7 : Int) (r1 : Int) (r2 : Int) (r3 : ByteArray) (r4 : Int) (r5 : Bool) (w : World) (hr0_4 : Kd.C (Kd.int .i64) w A0_4 l0_4.length l0_4) (hc0_4 : l0_4.length ≤ c0_4) (hr0_5 : Kd.C Kd.string w A0_5 l0_5.length l0_5) (hc0_5 : l0_5.length ≤ c0_5) (h : impl_constOf.f a0_0 a0_1 a0_2 a0_3 l0_4 l0_5 a0_6 a0_7 = some (r1, r2, r3, r4, r5)) :
    Calls Try.prog 116 #[.agg #[.int .i64 a0_0, .int .i64 a0_1, .int .i64 a0_2, .int .i64 a0_3, .slice A0_4 l0_4.length c0_4, .slice A0_5 l0_5.length c0_5, .int .u64 a0_6, .int .i64 a0_7]] w fun e w' => e = .returned (.tuple #[.agg #[.int .i64 r1, .int .u64 r2, .string r3, .int .i64 r4], .bool r5]) ∧ Below w.heap.size w w' := by
  have hu142 := Try.underlying142
  have hu75 := Try.underlying75
  have HR0_4 := Aside0.mk hr0_4
  have HC0_4 := Aside0.mk hc0_4
  clear hr0_4 hc0_4
  have HR0_5 := Aside0.mk hr0_5
  have HC0_5 := Aside0.mk hc0_5
  clear hr0_5 hc0_5
  have HB := Aside0.mk (Below.refl w.heap.size w)
  have H : (if a0_0 = 1 then ((impl_numberValue.f a0_6).bind fun bt251 => (some (bt251.1, bt251.2.1, bt251.2.2.1, bt251.2.2.2, true))) else (if a0_0 = 2 then (if 0 < (l0_5.length : Int) then ((impl_textValue.f (rdOf ByteArray.empty l0_5 0)).bind fun bt256 => (some (bt256.1, bt256.2.1, bt256.2.2.1, bt256.2.2.2, true))) else (none)) else (if a0_0 = 3 then ((impl_boolValue.f true).bind fun bt260 => (some (bt260.1, bt260.2.1, bt260.2.2.1, bt260.2.2.2, true))) else (if a0_0 = 4 then ((impl_boolValue.f false).bind fun bt264 => (some (bt264.1, bt264.2.1, bt264.2.2.1, bt264.2.2.2, true))) else (if a0_0 = 5 then (some (0, 0, (⟨#[]⟩ : ByteArray), 0, true)) else (some (0, 0, (⟨#[]⟩ : ByteArray), 0, false))))))) = some (r1, r2, r3, r4, r5) := h
  clear h
  by_cases c2 : a0_0 = 1
  · rw [if_pos c2] at H
    have c2b0 : (a0_0 == 1) = true := beq_iff_eq.mpr c2
    have c2b1 : (a0_0 != 1) = false := bne_eq_false_iff_eq.mpr c2
    clear c2
    replace H := Option.bind_eq_some_iff.mp H
    obtain ⟨⟨t251, t252, t253, t254⟩, A30, H⟩ := H
    replace H : (some (t251, t252, t253, t254, true)) = some (r1, r2, r3, r4, r5) := H
    have A3 := Aside0.mk A30
    clear A30
    simp only [Option.some.injEq, Prod.mk.injEq] at H
    obtain ⟨rfl, rfl, rfl, rfl, rfl⟩ := H
    go_enter Try.func116, Try.ntmps116
    go_wp2_with (first | ((with_reducible refine gate_dst (N := 1) rfl ?_); refine box_event ?hg (N := 1) ?hd (cs := #[.int .i64 a0_0, .int .i64 a0_1, .int .i64 a0_2, .int .i64 a0_3, .slice A0_4 l0_4.length c0_4, .slice A0_5 l0_5.length c0_5, .int .u64 a0_6, .int .i64 a0_7]) (t := 142) ?hr ?_; (case hd => rfl); (case hg => rfl); (case hr => first | (go_simp; done) | (go_simp; rfl)); intro gb249 hg w4 hbox hb; have n0_ := Aside0.mk (below_step (by repeat (first | (with_reducible first | exact HB.out | apply below_alloc | apply pw_below_drewN | apply below_drew1) | exact HB.out)) hb); have n1_ := Aside0.mk (hbox); have n2_ := Aside0.mk ((by rw [hg]; exact (below_size (by repeat (first | (with_reducible first | exact HB.out | apply below_alloc | apply pw_below_drewN | apply below_drew1) | exact HB.out))) : w.heap.size ≤ gb249)); have n3_ := Aside0.mk ((by rw [hg]; exact (below_size (by repeat (first | (with_reducible first | exact HB.out | apply below_alloc | apply pw_below_drewN | apply below_drew1) | exact HB.out))) : w.heap.size ≤ gb249)); clear HB; have HB := n0_; have BK249 := n1_; have GW249 := n2_; have GE249 := n3_; clear n0_ n1_ n2_ n3_; clear hb hbox hg) | ((with_reducible refine gate_dst (N := 2) rfl ?_); refine box_event ?hg (N := 2) ?hd (cs := #[.int .i64 0, .int .u64 0, .string (⟨#[]⟩ : ByteArray), .int .i64 0]) (t := 75) ?hr ?_; (case hd => rfl); (case hg => rfl); (case hr => first | (go_simp; done) | (go_simp; rfl)); intro gb250 hg w5 hbox hb; have n0_ := Aside0.mk (blk_below (g := gb249) (o := .cells #[.int .i64 a0_0, .int .i64 a0_1, .int .i64 a0_2, .int .i64 a0_3, .slice A0_4 l0_4.length c0_4, .slice A0_5 l0_5.length c0_5, .int .u64 a0_6, .int .i64 a0_7] 142 (0, 0)) (by (with_reducible repeat (first | refine blk_drewN ?_ _ | refine blk_drew ?_ | refine blk_alloc ?_ _)); exact BK249.out) hb); have n1_ := Aside0.mk (below_step (by repeat (first | (with_reducible first | exact HB.out | apply below_alloc | apply pw_below_drewN | apply below_drew1 | refine below_set ?_ GE249.out) | exact HB.out)) hb); have n2_ := Aside0.mk (hbox); have n3_ := Aside0.mk ((by rw [hg]; exact (below_size (by repeat (first | (with_reducible first | exact HB.out | apply below_alloc | apply pw_below_drewN | apply below_drew1 | refine below_set ?_ GE249.out) | exact HB.out))) : w.heap.size ≤ gb250)); have n4_ := Aside0.mk ((by rw [hg]; exact (below_size (by repeat (first | (with_reducible first | exact HB.out | apply below_alloc | apply pw_below_drewN | apply below_drew1 | refine below_set ?_ GE249.out) | exact HB.out))) : w.heap.size ≤ gb250)); have n5_ := Aside0.mk ((by rw [hg]; exact Nat.ne_of_lt (blk_lt (g := gb249) (o := .cells #[.int .i64 a0_0, .int .i64 a0_1, .int .i64 a0_2, .int .i64 a0_3, .slice A0_4 l0_4.length c0_4, .slice A0_5 l0_5.length c0_5, .int .u64 a0_6, .int .i64 a0_7] 142 (0, 0)) (by (with_reducible repeat (first | refine blk_drewN ?_ _ | refine blk_drew ?_ | refine blk_alloc ?_ _)); exact BK249.out)) : gb249 ≠ gb250)); have n6_ := Aside0.mk ((by rw [hg]; exact Nat.ne_of_gt (blk_lt (g := gb249) (o := .cells #[.int .i64 a0_0, .int .i64 a0_1, .int .i64 a0_2, .int .i64 a0_3, .slice A0_4 l0_4.length c0_4, .slice A0_5 l0_5.length c0_5, .int .u64 a0_6, .int .i64 a0_7] 142 (0, 0)) (by (with_reducible repeat (first | refine blk_drewN ?_ _ | refine blk_drew ?_ | refine blk_alloc ?_ _)); exact BK249.out)) : gb250 ≠ gb249)); clear BK249; clear HB; have BK249 := n0_; have HB := n1_; have BK250 := n2_; have GW250 := n3_; have GE250 := n4_; have NB249_250 := n5_; have NB250_249 := n6_; clear n0_ n1_ n2_ n3_ n4_ n5_ n6_; clear hb hbox hg; have hnb6 := NB249_250.out; have hnc6 := NB250_249.out; have hcz7_0 : w5.cell? ⟨gb249, 0, none⟩ = some (.int .i64 a0_0) := (blk_cell BK249.out 0).trans rfl; have hcz7_1 : w5.cell? ⟨gb249, 1, none⟩ = some (.int .i64 a0_1) := (blk_cell BK249.out 1).trans rfl; have hcz7_2 : w5.cell? ⟨gb249, 2, none⟩ = some (.int .i64 a0_2) := (blk_cell BK249.out 2).trans rfl; have hcz7_3 : w5.cell? ⟨gb249, 3, none⟩ = some (.int .i64 a0_3) := (blk_cell BK249.out 3).trans rfl; have hcz7_4 : w5.cell? ⟨gb249, 4, none⟩ = some (.slice A0_4 l0_4.length c0_4) := (blk_cell BK249.out 4).trans rfl; have hcz7_5 : w5.cell? ⟨gb249, 5, none⟩ = some (.slice A0_5 l0_5.length c0_5) := (blk_cell BK249.out 5).trans rfl; have hcz7_6 : w5.cell? ⟨gb249, 6, none⟩ = some (.int .u64 a0_6) := (blk_cell BK249.out 6).trans rfl; have hcz7_7 : w5.cell? ⟨gb249, 7, none⟩ = some (.int .i64 a0_7) := (blk_cell BK249.out 7).trans rfl; have hfz7_0 := blk_frozen BK249.out 0; have hfz7_1 := blk_frozen BK249.out 1; have hfz7_2 := blk_frozen BK249.out 2; have hfz7_3 := blk_frozen BK249.out 3; have hfz7_4 := blk_frozen BK249.out 4; have hfz7_5 := blk_frozen BK249.out 5; have hfz7_6 := blk_frozen BK249.out 6; have hfz7_7 := blk_frozen BK249.out 7) | ((with_reducible refine gate_callee (f := 175) rfl ?_); refine goesL_ (some 10) rfl rfl Try.func175 (by kernel_rfl) rfl #[.int .u64 a0_6] rfl (by (try simp only [List.map_toArray, List.map_cons, List.map_nil]); first | done | rfl | (simp only [List.length_drop, List.length_take]; rfl)) ?_; (with_reducible refine (impl_numberValue.calls a0_6 t251 t252 t253 t254 _ A3.out).mono ?_); rintro e w8 ⟨rfl, hb⟩; refine ⟨_, rfl, ?_⟩; have n0_ := Aside0.mk (blk_below (g := gb249) (o := .cells #[.int .i64 a0_0, .int .i64 a0_1, .int .i64 a0_2, .int .i64 a0_3, .slice A0_4 l0_4.length c0_4, .slice A0_5 l0_5.length c0_5, .int .u64 a0_6, .int .i64 a0_7] 142 (0, 0)) (by (with_reducible repeat (first | refine blk_drewN ?_ _ | refine blk_drew ?_ | refine blk_alloc ?_ _)); exact BK249.out) hb); have n1_ := Aside0.mk (blk_below (g := gb250) (o := .cells #[.int .i64 0, .int .u64 0, .string (⟨#[]⟩ : ByteArray), .int .i64 0] 75 (0, 0)) (by (with_reducible repeat (first | refine blk_drewN ?_ _ | refine blk_drew ?_ | refine blk_alloc ?_ _)); exact BK250.out) hb); have n2_ := Aside0.mk (below_step (by repeat (first | (with_reducible first | exact HB.out | apply below_alloc | apply pw_below_drewN | apply below_drew1 | refine below_set ?_ GE249.out | refine below_set ?_ GE250.out) | exact HB.out)) hb); clear BK249; clear BK250; clear HB; have BK249 := n0_; have BK250 := n1_; have HB := n2_; clear n0_ n1_ n2_; (try clear hb); (try clear hb2); (try clear hk); (try clear hi); have hcz9_0 : w8.cell? ⟨gb250, 0, none⟩ = some (.int .i64 0) := (blk_cell BK250.out 0).trans rfl; have hcz9_1 : w8.cell? ⟨gb250, 1, none⟩ = some (.int .u64 0) := (blk_cell BK250.out 1).trans rfl; have hcz9_2 : w8.cell? ⟨gb250, 2, none⟩ = some (.string (⟨#[]⟩ : ByteArray)) := (blk_cell BK250.out 2).trans rfl; have hcz9_3 : w8.cell? ⟨gb250, 3, none⟩ = some (.int .i64 0) := (blk_cell BK250.out 3).trans rfl; have hfz9_0 := blk_frozen BK250.out 0; have hfz9_1 := blk_frozen BK250.out 1; have hfz9_2 := blk_frozen BK250.out 2; have hfz9_3 := blk_frozen BK250.out 3))
    refine bodyPost_ret (results_ct rfl _ _ gb250 75 #[.int .i64 t251, .int .u64 t252, .string t253, .int .i64 t254] (0, 0) _ rfl (by (with_reducible repeat (first | refine blk_drewN ?_ _ | refine blk_drew ?_ | refine blk_alloc ?_ _)); refine blk_put (cs := #[.int .i64 t251, .int .u64 t252, .string t253, .int .i64 0]) ?_ 3 _ rfl; (with_reducible repeat (first | refine blk_drewN ?_ _ | refine blk_drew ?_ | refine blk_alloc ?_ _)); refine blk_put (cs := #[.int .i64 t251, .int .u64 t252, .string (⟨#[]⟩ : ByteArray), .int .i64 0]) ?_ 2 _ rfl; (with_reducible repeat (first | refine blk_drewN ?_ _ | refine blk_drew ?_ | refine blk_alloc ?_ _)); refine blk_put (cs := #[.int .i64 t251, .int .u64 0, .string (⟨#[]⟩ : ByteArray), .int .i64 0]) ?_ 1 _ rfl; (with_reducible repeat (first | refine blk_drewN ?_ _ | refine blk_drew ?_ | refine blk_alloc ?_ _)); refine blk_put (cs := #[.int .i64 0, .int .u64 0, .string (⟨#[]⟩ : ByteArray), .int .i64 0]) ?_ 0 _ rfl; (with_reducible repeat (first | refine blk_drewN ?_ _ | refine blk_drew ?_ | refine blk_alloc ?_ _)); exact BK250.out) Try.underlying75 rfl (by kernel_rfl)) rfl ?_
    exact ⟨by first | rfl | (simp; done) | (simp [errW_none, errW_some] <;> rfl) | (simp [*, errW_none, errW_some] <;> rfl) | (simp [bne, List.isEmpty_iff]; done) | (rw [Bool.eq_iff_iff]; simp), by repeat (first | (with_reducible first | exact HB.out | apply below_alloc | apply pw_below_drewN | apply below_drew1 | refine below_set ?_ GE249.out | refine below_set ?_ GE250.out) | exact HB.out)⟩
  · rw [if_neg c2] at H
    have c2b0 : (a0_0 == 1) = false := beq_eq_false_iff_ne.mpr c2
    have c2b1 : (a0_0 != 1) = true := bne_iff_ne.mpr c2
    by_cases c10 : a0_0 = 2
    · rw [if_pos c10] at H
      have c10b0 : (a0_0 == 2) = true := beq_iff_eq.mpr c10
      have c10b1 : (a0_0 != 2) = false := bne_eq_false_iff_eq.mpr c10
      clear c10
      by_cases c11 : 0 < (l0_5.length : Int)
      · rw [if_pos c11] at H
        have c11b0 : decide (0 < (l0_5.length : Int)) = true := decide_eq_true c11
        have c11b1 : decide (0 < l0_5.length) = true := decide_eq_true (by omega)
        clear c11
        replace H := Option.bind_eq_some_iff.mp H
        obtain ⟨⟨t256, t257, t258, t259⟩, A120, H⟩ := H
        replace H : (some (t256, t257, t258, t259, true)) = some (r1, r2, r3, r4, r5) := H
        have A12 := Aside0.mk A120
        clear A120
        simp only [Option.some.injEq, Prod.mk.injEq] at H
        obtain ⟨rfl, rfl, rfl, rfl, rfl⟩ := H
        go_enter Try.func116, Try.ntmps116
        go_wp2_with (first | ((with_reducible refine gate_dst (N := 1) rfl ?_); refine box_event ?hg (N := 1) ?hd (cs := #[.int .i64 a0_0, .int .i64 a0_1, .int .i64 a0_2, .int .i64 a0_3, .slice A0_4 l0_4.length c0_4, .slice A0_5 l0_5.length c0_5, .int .u64 a0_6, .int .i64 a0_7]) (t := 142) ?hr ?_; (case hd => rfl); (case hg => rfl); (case hr => first | (go_simp; done) | (go_simp; rfl)); intro gb249 hg w13 hbox hb; have n0_ := Aside0.mk (below_step (by repeat (first | (with_reducible first | exact HB.out | apply below_alloc | apply pw_below_drewN | apply below_drew1) | exact HB.out)) hb); have n1_ := Aside0.mk (hbox); have n2_ := Aside0.mk ((by rw [hg]; exact (below_size (by repeat (first | (with_reducible first | exact HB.out | apply below_alloc | apply pw_below_drewN | apply below_drew1) | exact HB.out))) : w.heap.size ≤ gb249)); have n3_ := Aside0.mk ((by rw [hg]; exact (below_size (by repeat (first | (with_reducible first | exact HB.out | apply below_alloc | apply pw_below_drewN | apply below_drew1) | exact HB.out))) : w.heap.size ≤ gb249)); clear HB; have HB := n0_; have BK249 := n1_; have GW249 := n2_; have GE249 := n3_; clear n0_ n1_ n2_ n3_; clear hb hbox hg) | ((with_reducible refine gate_dst (N := 2) rfl ?_); refine box_event ?hg (N := 2) ?hd (cs := #[.int .i64 0, .int .u64 0, .string (⟨#[]⟩ : ByteArray), .int .i64 0]) (t := 75) ?hr ?_; (case hd => rfl); (case hg => rfl); (case hr => first | (go_simp; done) | (go_simp; rfl)); intro gb250 hg w14 hbox hb; have n0_ := Aside0.mk (blk_below (g := gb249) (o := .cells #[.int .i64 a0_0, .int .i64 a0_1, .int .i64 a0_2, .int .i64 a0_3, .slice A0_4 l0_4.length c0_4, .slice A0_5 l0_5.length c0_5, .int .u64 a0_6, .int .i64 a0_7] 142 (0, 0)) (by (with_reducible repeat (first | refine blk_drewN ?_ _ | refine blk_drew ?_ | refine blk_alloc ?_ _)); exact BK249.out) hb); have n1_ := Aside0.mk (below_step (by repeat (first | (with_reducible first | exact HB.out | apply below_alloc | apply pw_below_drewN | apply below_drew1 | refine below_set ?_ GE249.out) | exact HB.out)) hb); have n2_ := Aside0.mk (hbox); have n3_ := Aside0.mk ((by rw [hg]; exact (below_size (by repeat (first | (with_reducible first | exact HB.out | apply below_alloc | apply pw_below_drewN | apply below_drew1 | refine below_set ?_ GE249.out) | exact HB.out))) : w.heap.size ≤ gb250)); have n4_ := Aside0.mk ((by rw [hg]; exact (below_size (by repeat (first | (with_reducible first | exact HB.out | apply below_alloc | apply pw_below_drewN | apply below_drew1 | refine below_set ?_ GE249.out) | exact HB.out))) : w.heap.size ≤ gb250)); have n5_ := Aside0.mk ((by rw [hg]; exact Nat.ne_of_lt (blk_lt (g := gb249) (o := .cells #[.int .i64 a0_0, .int .i64 a0_1, .int .i64 a0_2, .int .i64 a0_3, .slice A0_4 l0_4.length c0_4, .slice A0_5 l0_5.length c0_5, .int .u64 a0_6, .int .i64 a0_7] 142 (0, 0)) (by (with_reducible repeat (first | refine blk_drewN ?_ _ | refine blk_drew ?_ | refine blk_alloc ?_ _)); exact BK249.out)) : gb249 ≠ gb250)); have n6_ := Aside0.mk ((by rw [hg]; exact Nat.ne_of_gt (blk_lt (g := gb249) (o := .cells #[.int .i64 a0_0, .int .i64 a0_1, .int .i64 a0_2, .int .i64 a0_3, .slice A0_4 l0_4.length c0_4, .slice A0_5 l0_5.length c0_5, .int .u64 a0_6, .int .i64 a0_7] 142 (0, 0)) (by (with_reducible repeat (first | refine blk_drewN ?_ _ | refine blk_drew ?_ | refine blk_alloc ?_ _)); exact BK249.out)) : gb250 ≠ gb249)); clear BK249; clear HB; have BK249 := n0_; have HB := n1_; have BK250 := n2_; have GW250 := n3_; have GE250 := n4_; have NB249_250 := n5_; have NB250_249 := n6_; clear n0_ n1_ n2_ n3_ n4_ n5_ n6_; clear hb hbox hg; have hnb15 := NB249_250.out; have hnc15 := NB250_249.out; have hcz16_0 : w14.cell? ⟨gb249, 0, none⟩ = some (.int .i64 a0_0) := (blk_cell BK249.out 0).trans rfl; have hcz16_1 : w14.cell? ⟨gb249, 1, none⟩ = some (.int .i64 a0_1) := (blk_cell BK249.out 1).trans rfl; have hcz16_2 : w14.cell? ⟨gb249, 2, none⟩ = some (.int .i64 a0_2) := (blk_cell BK249.out 2).trans rfl; have hcz16_3 : w14.cell? ⟨gb249, 3, none⟩ = some (.int .i64 a0_3) := (blk_cell BK249.out 3).trans rfl; have hcz16_4 : w14.cell? ⟨gb249, 4, none⟩ = some (.slice A0_4 l0_4.length c0_4) := (blk_cell BK249.out 4).trans rfl; have hcz16_5 : w14.cell? ⟨gb249, 5, none⟩ = some (.slice A0_5 l0_5.length c0_5) := (blk_cell BK249.out 5).trans rfl; have hcz16_6 : w14.cell? ⟨gb249, 6, none⟩ = some (.int .u64 a0_6) := (blk_cell BK249.out 6).trans rfl; have hcz16_7 : w14.cell? ⟨gb249, 7, none⟩ = some (.int .i64 a0_7) := (blk_cell BK249.out 7).trans rfl; have hfz16_0 := blk_frozen BK249.out 0; have hfz16_1 := blk_frozen BK249.out 1; have hfz16_2 := blk_frozen BK249.out 2; have hfz16_3 := blk_frozen BK249.out 3; have hfz16_4 := blk_frozen BK249.out 4; have hfz16_5 := blk_frozen BK249.out 5; have hfz16_6 := blk_frozen BK249.out 6; have hfz16_7 := blk_frozen BK249.out 7; have p255 : 0 ≤ (0 : Int) := (by omega); have q255 : 0 < (l0_5.length : Int) := of_decide_eq_true (by first | (with_reducible assumption) | assumption); obtain ⟨ad255, e255, hx255_0⟩ := Kd.at_string HR0_5.out 0 p255 q255; cases e255; have qi255 : (0 < l0_5.length) = True := eq_true (by omega); (try rw [show ((0 : Int)).toNat = 0 from rfl] at hx255_0); (try rw [Addr.add_zero'] at hx255_0); replace hx255_0 := (HB.out.cell (World.block_lt_of_cell? w _ hx255_0)).trans hx255_0; replace p255 := eq_true p255; replace q255 := eq_true q255) | ((with_reducible refine gate_callee (f := 176) rfl ?_); refine goesL_ (some 17) rfl rfl Try.func176 (by kernel_rfl) rfl #[.string (rdOf ByteArray.empty l0_5 0)] rfl (by (try simp only [List.map_toArray, List.map_cons, List.map_nil]); first | done | rfl | (simp only [List.length_drop, List.length_take]; rfl)) ?_; (with_reducible refine (impl_textValue.calls (rdOf ByteArray.empty l0_5 0) t256 t257 t258 t259 _ A12.out).mono ?_); rintro e w17 ⟨rfl, hb⟩; refine ⟨_, rfl, ?_⟩; have n0_ := Aside0.mk (blk_below (g := gb249) (o := .cells #[.int .i64 a0_0, .int .i64 a0_1, .int .i64 a0_2, .int .i64 a0_3, .slice A0_4 l0_4.length c0_4, .slice (some ad255) l0_5.length c0_5, .int .u64 a0_6, .int .i64 a0_7] 142 (0, 0)) (by (with_reducible repeat (first | refine blk_drewN ?_ _ | refine blk_drew ?_ | refine blk_alloc ?_ _)); exact BK249.out) hb); have n1_ := Aside0.mk (blk_below (g := gb250) (o := .cells #[.int .i64 0, .int .u64 0, .string (⟨#[]⟩ : ByteArray), .int .i64 0] 75 (0, 0)) (by (with_reducible repeat (first | refine blk_drewN ?_ _ | refine blk_drew ?_ | refine blk_alloc ?_ _)); exact BK250.out) hb); have n2_ := Aside0.mk (below_step (by repeat (first | (with_reducible first | exact HB.out | apply below_alloc | apply pw_below_drewN | apply below_drew1 | refine below_set ?_ GE249.out | refine below_set ?_ GE250.out) | exact HB.out)) hb); clear BK249; clear BK250; clear HB; have BK249 := n0_; have BK250 := n1_; have HB := n2_; clear n0_ n1_ n2_; (try clear hb); (try clear hb2); (try clear hk); (try clear hi); have hcz18_0 : w17.cell? ⟨gb250, 0, none⟩ = some (.int .i64 0) := (blk_cell BK250.out 0).trans rfl; have hcz18_1 : w17.cell? ⟨gb250, 1, none⟩ = some (.int .u64 0) := (blk_cell BK250.out 1).trans rfl; have hcz18_2 : w17.cell? ⟨gb250, 2, none⟩ = some (.string (⟨#[]⟩ : ByteArray)) := (blk_cell BK250.out 2).trans rfl; have hcz18_3 : w17.cell? ⟨gb250, 3, none⟩ = some (.int .i64 0) := (blk_cell BK250.out 3).trans rfl; have hfz18_0 := blk_frozen BK250.out 0; have hfz18_1 := blk_frozen BK250.out 1; have hfz18_2 := blk_frozen BK250.out 2; have hfz18_3 := blk_frozen BK250.out 3))
        refine bodyPost_ret (results_ct rfl _ _ gb250 75 #[.int .i64 t256, .int .u64 t257, .string t258, .int .i64 t259] (0, 0) _ rfl (by (with_reducible repeat (first | refine blk_drewN ?_ _ | refine blk_drew ?_ | refine blk_alloc ?_ _)); refine blk_put (cs := #[.int .i64 t256, .int .u64 t257, .string t258, .int .i64 0]) ?_ 3 _ rfl; (with_reducible repeat (first | refine blk_drewN ?_ _ | refine blk_drew ?_ | refine blk_alloc ?_ _)); refine blk_put (cs := #[.int .i64 t256, .int .u64 t257, .string (⟨#[]⟩ : ByteArray), .int .i64 0]) ?_ 2 _ rfl; (with_reducible repeat (first | refine blk_drewN ?_ _ | refine blk_drew ?_ | refine blk_alloc ?_ _)); refine blk_put (cs := #[.int .i64 t256, .int .u64 0, .string (⟨#[]⟩ : ByteArray), .int .i64 0]) ?_ 1 _ rfl; (with_reducible repeat (first | refine blk_drewN ?_ _ | refine blk_drew ?_ | refine blk_alloc ?_ _)); refine blk_put (cs := #[.int .i64 0, .int .u64 0, .string (⟨#[]⟩ : ByteArray), .int .i64 0]) ?_ 0 _ rfl; (with_reducible repeat (first | refine blk_drewN ?_ _ | refine blk_drew ?_ | refine blk_alloc ?_ _)); exact BK250.out) Try.underlying75 rfl (by kernel_rfl)) rfl ?_
        exact ⟨by first | rfl | (simp; done) | (simp [errW_none, errW_some] <;> rfl) | (simp [*, errW_none, errW_some] <;> rfl) | (simp [bne, List.isEmpty_iff]; done) | (rw [Bool.eq_iff_iff]; simp), by repeat (first | (with_reducible first | exact HB.out | apply below_alloc | apply pw_below_drewN | apply below_drew1 | refine below_set ?_ GE249.out | refine below_set ?_ GE250.out) | exact HB.out)⟩
      · rw [if_neg c11] at H
        exact absurd H (by simp)
    · rw [if_neg c10] at H
      have c10b0 : (a0_0 == 2) = false := beq_eq_false_iff_ne.mpr c10
      have c10b1 : (a0_0 != 2) = true := bne_iff_ne.mpr c10
      by_cases c19 : a0_0 = 3
      · rw [if_pos c19] at H
        have c19b0 : (a0_0 == 3) = true := beq_iff_eq.mpr c19
        have c19b1 : (a0_0 != 3) = false := bne_eq_false_iff_eq.mpr c19
        clear c19
        replace H := Option.bind_eq_some_iff.mp H
        obtain ⟨⟨t260, t261, t262, t263⟩, A200, H⟩ := H
        replace H : (some (t260, t261, t262, t263, true)) = some (r1, r2, r3, r4, r5) := H
        have A20 := Aside0.mk A200
        clear A200
        simp only [Option.some.injEq, Prod.mk.injEq] at H
        obtain ⟨rfl, rfl, rfl, rfl, rfl⟩ := H
        go_enter Try.func116, Try.ntmps116
        go_wp2_with (first | ((with_reducible refine gate_dst (N := 1) rfl ?_); refine box_event ?hg (N := 1) ?hd (cs := #[.int .i64 a0_0, .int .i64 a0_1, .int .i64 a0_2, .int .i64 a0_3, .slice A0_4 l0_4.length c0_4, .slice A0_5 l0_5.length c0_5, .int .u64 a0_6, .int .i64 a0_7]) (t := 142) ?hr ?_; (case hd => rfl); (case hg => rfl); (case hr => first | (go_simp; done) | (go_simp; rfl)); intro gb249 hg w21 hbox hb; have n0_ := Aside0.mk (below_step (by repeat (first | (with_reducible first | exact HB.out | apply below_alloc | apply pw_below_drewN | apply below_drew1) | exact HB.out)) hb); have n1_ := Aside0.mk (hbox); have n2_ := Aside0.mk ((by rw [hg]; exact (below_size (by repeat (first | (with_reducible first | exact HB.out | apply below_alloc | apply pw_below_drewN | apply below_drew1) | exact HB.out))) : w.heap.size ≤ gb249)); have n3_ := Aside0.mk ((by rw [hg]; exact (below_size (by repeat (first | (with_reducible first | exact HB.out | apply below_alloc | apply pw_below_drewN | apply below_drew1) | exact HB.out))) : w.heap.size ≤ gb249)); clear HB; have HB := n0_; have BK249 := n1_; have GW249 := n2_; have GE249 := n3_; clear n0_ n1_ n2_ n3_; clear hb hbox hg) | ((with_reducible refine gate_dst (N := 2) rfl ?_); refine box_event ?hg (N := 2) ?hd (cs := #[.int .i64 0, .int .u64 0, .string (⟨#[]⟩ : ByteArray), .int .i64 0]) (t := 75) ?hr ?_; (case hd => rfl); (case hg => rfl); (case hr => first | (go_simp; done) | (go_simp; rfl)); intro gb250 hg w22 hbox hb; have n0_ := Aside0.mk (blk_below (g := gb249) (o := .cells #[.int .i64 a0_0, .int .i64 a0_1, .int .i64 a0_2, .int .i64 a0_3, .slice A0_4 l0_4.length c0_4, .slice A0_5 l0_5.length c0_5, .int .u64 a0_6, .int .i64 a0_7] 142 (0, 0)) (by (with_reducible repeat (first | refine blk_drewN ?_ _ | refine blk_drew ?_ | refine blk_alloc ?_ _)); exact BK249.out) hb); have n1_ := Aside0.mk (below_step (by repeat (first | (with_reducible first | exact HB.out | apply below_alloc | apply pw_below_drewN | apply below_drew1 | refine below_set ?_ GE249.out) | exact HB.out)) hb); have n2_ := Aside0.mk (hbox); have n3_ := Aside0.mk ((by rw [hg]; exact (below_size (by repeat (first | (with_reducible first | exact HB.out | apply below_alloc | apply pw_below_drewN | apply below_drew1 | refine below_set ?_ GE249.out) | exact HB.out))) : w.heap.size ≤ gb250)); have n4_ := Aside0.mk ((by rw [hg]; exact (below_size (by repeat (first | (with_reducible first | exact HB.out | apply below_alloc | apply pw_below_drewN | apply below_drew1 | refine below_set ?_ GE249.out) | exact HB.out))) : w.heap.size ≤ gb250)); have n5_ := Aside0.mk ((by rw [hg]; exact Nat.ne_of_lt (blk_lt (g := gb249) (o := .cells #[.int .i64 a0_0, .int .i64 a0_1, .int .i64 a0_2, .int .i64 a0_3, .slice A0_4 l0_4.length c0_4, .slice A0_5 l0_5.length c0_5, .int .u64 a0_6, .int .i64 a0_7] 142 (0, 0)) (by (with_reducible repeat (first | refine blk_drewN ?_ _ | refine blk_drew ?_ | refine blk_alloc ?_ _)); exact BK249.out)) : gb249 ≠ gb250)); have n6_ := Aside0.mk ((by rw [hg]; exact Nat.ne_of_gt (blk_lt (g := gb249) (o := .cells #[.int .i64 a0_0, .int .i64 a0_1, .int .i64 a0_2, .int .i64 a0_3, .slice A0_4 l0_4.length c0_4, .slice A0_5 l0_5.length c0_5, .int .u64 a0_6, .int .i64 a0_7] 142 (0, 0)) (by (with_reducible repeat (first | refine blk_drewN ?_ _ | refine blk_drew ?_ | refine blk_alloc ?_ _)); exact BK249.out)) : gb250 ≠ gb249)); clear BK249; clear HB; have BK249 := n0_; have HB := n1_; have BK250 := n2_; have GW250 := n3_; have GE250 := n4_; have NB249_250 := n5_; have NB250_249 := n6_; clear n0_ n1_ n2_ n3_ n4_ n5_ n6_; clear hb hbox hg; have hnb23 := NB249_250.out; have hnc23 := NB250_249.out; have hcz24_0 : w22.cell? ⟨gb249, 0, none⟩ = some (.int .i64 a0_0) := (blk_cell BK249.out 0).trans rfl; have hcz24_1 : w22.cell? ⟨gb249, 1, none⟩ = some (.int .i64 a0_1) := (blk_cell BK249.out 1).trans rfl; have hcz24_2 : w22.cell? ⟨gb249, 2, none⟩ = some (.int .i64 a0_2) := (blk_cell BK249.out 2).trans rfl; have hcz24_3 : w22.cell? ⟨gb249, 3, none⟩ = some (.int .i64 a0_3) := (blk_cell BK249.out 3).trans rfl; have hcz24_4 : w22.cell? ⟨gb249, 4, none⟩ = some (.slice A0_4 l0_4.length c0_4) := (blk_cell BK249.out 4).trans rfl; have hcz24_5 : w22.cell? ⟨gb249, 5, none⟩ = some (.slice A0_5 l0_5.length c0_5) := (blk_cell BK249.out 5).trans rfl; have hcz24_6 : w22.cell? ⟨gb249, 6, none⟩ = some (.int .u64 a0_6) := (blk_cell BK249.out 6).trans rfl; have hcz24_7 : w22.cell? ⟨gb249, 7, none⟩ = some (.int .i64 a0_7) := (blk_cell BK249.out 7).trans rfl; have hfz24_0 := blk_frozen BK249.out 0; have hfz24_1 := blk_frozen BK249.out 1; have hfz24_2 := blk_frozen BK249.out 2; have hfz24_3 := blk_frozen BK249.out 3; have hfz24_4 := blk_frozen BK249.out 4; have hfz24_5 := blk_frozen BK249.out 5; have hfz24_6 := blk_frozen BK249.out 6; have hfz24_7 := blk_frozen BK249.out 7) | ((with_reducible refine gate_callee (f := 177) rfl ?_); refine goesL_ (some 20) rfl rfl Try.func177 (by kernel_rfl) rfl #[.bool true] rfl (by (try simp only [List.map_toArray, List.map_cons, List.map_nil]); first | done | rfl | (simp only [List.length_drop, List.length_take]; rfl)) ?_; (with_reducible refine (impl_boolValue.calls true t260 t261 t262 t263 _ A20.out).mono ?_); rintro e w25 ⟨rfl, hb⟩; refine ⟨_, rfl, ?_⟩; have n0_ := Aside0.mk (blk_below (g := gb249) (o := .cells #[.int .i64 a0_0, .int .i64 a0_1, .int .i64 a0_2, .int .i64 a0_3, .slice A0_4 l0_4.length c0_4, .slice A0_5 l0_5.length c0_5, .int .u64 a0_6, .int .i64 a0_7] 142 (0, 0)) (by (with_reducible repeat (first | refine blk_drewN ?_ _ | refine blk_drew ?_ | refine blk_alloc ?_ _)); exact BK249.out) hb); have n1_ := Aside0.mk (blk_below (g := gb250) (o := .cells #[.int .i64 0, .int .u64 0, .string (⟨#[]⟩ : ByteArray), .int .i64 0] 75 (0, 0)) (by (with_reducible repeat (first | refine blk_drewN ?_ _ | refine blk_drew ?_ | refine blk_alloc ?_ _)); exact BK250.out) hb); have n2_ := Aside0.mk (below_step (by repeat (first | (with_reducible first | exact HB.out | apply below_alloc | apply pw_below_drewN | apply below_drew1 | refine below_set ?_ GE249.out | refine below_set ?_ GE250.out) | exact HB.out)) hb); clear BK249; clear BK250; clear HB; have BK249 := n0_; have BK250 := n1_; have HB := n2_; clear n0_ n1_ n2_; (try clear hb); (try clear hb2); (try clear hk); (try clear hi); have hcz26_0 : w25.cell? ⟨gb250, 0, none⟩ = some (.int .i64 0) := (blk_cell BK250.out 0).trans rfl; have hcz26_1 : w25.cell? ⟨gb250, 1, none⟩ = some (.int .u64 0) := (blk_cell BK250.out 1).trans rfl; have hcz26_2 : w25.cell? ⟨gb250, 2, none⟩ = some (.string (⟨#[]⟩ : ByteArray)) := (blk_cell BK250.out 2).trans rfl; have hcz26_3 : w25.cell? ⟨gb250, 3, none⟩ = some (.int .i64 0) := (blk_cell BK250.out 3).trans rfl; have hfz26_0 := blk_frozen BK250.out 0; have hfz26_1 := blk_frozen BK250.out 1; have hfz26_2 := blk_frozen BK250.out 2; have hfz26_3 := blk_frozen BK250.out 3))
        refine bodyPost_ret (results_ct rfl _ _ gb250 75 #[.int .i64 t260, .int .u64 t261, .string t262, .int .i64 t263] (0, 0) _ rfl (by (with_reducible repeat (first | refine blk_drewN ?_ _ | refine blk_drew ?_ | refine blk_alloc ?_ _)); refine blk_put (cs := #[.int .i64 t260, .int .u64 t261, .string t262, .int .i64 0]) ?_ 3 _ rfl; (with_reducible repeat (first | refine blk_drewN ?_ _ | refine blk_drew ?_ | refine blk_alloc ?_ _)); refine blk_put (cs := #[.int .i64 t260, .int .u64 t261, .string (⟨#[]⟩ : ByteArray), .int .i64 0]) ?_ 2 _ rfl; (with_reducible repeat (first | refine blk_drewN ?_ _ | refine blk_drew ?_ | refine blk_alloc ?_ _)); refine blk_put (cs := #[.int .i64 t260, .int .u64 0, .string (⟨#[]⟩ : ByteArray), .int .i64 0]) ?_ 1 _ rfl; (with_reducible repeat (first | refine blk_drewN ?_ _ | refine blk_drew ?_ | refine blk_alloc ?_ _)); refine blk_put (cs := #[.int .i64 0, .int .u64 0, .string (⟨#[]⟩ : ByteArray), .int .i64 0]) ?_ 0 _ rfl; (with_reducible repeat (first | refine blk_drewN ?_ _ | refine blk_drew ?_ | refine blk_alloc ?_ _)); exact BK250.out) Try.underlying75 rfl (by kernel_rfl)) rfl ?_
        exact ⟨by first | rfl | (simp; done) | (simp [errW_none, errW_some] <;> rfl) | (simp [*, errW_none, errW_some] <;> rfl) | (simp [bne, List.isEmpty_iff]; done) | (rw [Bool.eq_iff_iff]; simp), by repeat (first | (with_reducible first | exact HB.out | apply below_alloc | apply pw_below_drewN | apply below_drew1 | refine below_set ?_ GE249.out | refine below_set ?_ GE250.out) | exact HB.out)⟩
      · rw [if_neg c19] at H
        have c19b0 : (a0_0 == 3) = false := beq_eq_false_iff_ne.mpr c19
        have c19b1 : (a0_0 != 3) = true := bne_iff_ne.mpr c19
        by_cases c27 : a0_0 = 4
        · rw [if_pos c27] at H
          have c27b0 : (a0_0 == 4) = true := beq_iff_eq.mpr c27
          have c27b1 : (a0_0 != 4) = false := bne_eq_false_iff_eq.mpr c27
          clear c27
          replace H := Option.bind_eq_some_iff.mp H
          obtain ⟨⟨t264, t265, t266, t267⟩, A280, H⟩ := H
          replace H : (some (t264, t265, t266, t267, true)) = some (r1, r2, r3, r4, r5) := H
          have A28 := Aside0.mk A280
          clear A280
          simp only [Option.some.injEq, Prod.mk.injEq] at H
          obtain ⟨rfl, rfl, rfl, rfl, rfl⟩ := H
          go_enter Try.func116, Try.ntmps116
          go_wp2_with (first | ((with_reducible refine gate_dst (N := 1) rfl ?_); refine box_event ?hg (N := 1) ?hd (cs := #[.int .i64 a0_0, .int .i64 a0_1, .int .i64 a0_2, .int .i64 a0_3, .slice A0_4 l0_4.length c0_4, .slice A0_5 l0_5.length c0_5, .int .u64 a0_6, .int .i64 a0_7]) (t := 142) ?hr ?_; (case hd => rfl); (case hg => rfl); (case hr => first | (go_simp; done) | (go_simp; rfl)); intro gb249 hg w29 hbox hb; have n0_ := Aside0.mk (below_step (by repeat (first | (with_reducible first | exact HB.out | apply below_alloc | apply pw_below_drewN | apply below_drew1) | exact HB.out)) hb); have n1_ := Aside0.mk (hbox); have n2_ := Aside0.mk ((by rw [hg]; exact (below_size (by repeat (first | (with_reducible first | exact HB.out | apply below_alloc | apply pw_below_drewN | apply below_drew1) | exact HB.out))) : w.heap.size ≤ gb249)); have n3_ := Aside0.mk ((by rw [hg]; exact (below_size (by repeat (first | (with_reducible first | exact HB.out | apply below_alloc | apply pw_below_drewN | apply below_drew1) | exact HB.out))) : w.heap.size ≤ gb249)); clear HB; have HB := n0_; have BK249 := n1_; have GW249 := n2_; have GE249 := n3_; clear n0_ n1_ n2_ n3_; clear hb hbox hg) | ((with_reducible refine gate_dst (N := 2) rfl ?_); refine box_event ?hg (N := 2) ?hd (cs := #[.int .i64 0, .int .u64 0, .string (⟨#[]⟩ : ByteArray), .int .i64 0]) (t := 75) ?hr ?_; (case hd => rfl); (case hg => rfl); (case hr => first | (go_simp; done) | (go_simp; rfl)); intro gb250 hg w30 hbox hb; have n0_ := Aside0.mk (blk_below (g := gb249) (o := .cells #[.int .i64 a0_0, .int .i64 a0_1, .int .i64 a0_2, .int .i64 a0_3, .slice A0_4 l0_4.length c0_4, .slice A0_5 l0_5.length c0_5, .int .u64 a0_6, .int .i64 a0_7] 142 (0, 0)) (by (with_reducible repeat (first | refine blk_drewN ?_ _ | refine blk_drew ?_ | refine blk_alloc ?_ _)); exact BK249.out) hb); have n1_ := Aside0.mk (below_step (by repeat (first | (with_reducible first | exact HB.out | apply below_alloc | apply pw_below_drewN | apply below_drew1 | refine below_set ?_ GE249.out) | exact HB.out)) hb); have n2_ := Aside0.mk (hbox); have n3_ := Aside0.mk ((by rw [hg]; exact (below_size (by repeat (first | (with_reducible first | exact HB.out | apply below_alloc | apply pw_below_drewN | apply below_drew1 | refine below_set ?_ GE249.out) | exact HB.out))) : w.heap.size ≤ gb250)); have n4_ := Aside0.mk ((by rw [hg]; exact (below_size (by repeat (first | (with_reducible first | exact HB.out | apply below_alloc | apply pw_below_drewN | apply below_drew1 | refine below_set ?_ GE249.out) | exact HB.out))) : w.heap.size ≤ gb250)); have n5_ := Aside0.mk ((by rw [hg]; exact Nat.ne_of_lt (blk_lt (g := gb249) (o := .cells #[.int .i64 a0_0, .int .i64 a0_1, .int .i64 a0_2, .int .i64 a0_3, .slice A0_4 l0_4.length c0_4, .slice A0_5 l0_5.length c0_5, .int .u64 a0_6, .int .i64 a0_7] 142 (0, 0)) (by (with_reducible repeat (first | refine blk_drewN ?_ _ | refine blk_drew ?_ | refine blk_alloc ?_ _)); exact BK249.out)) : gb249 ≠ gb250)); have n6_ := Aside0.mk ((by rw [hg]; exact Nat.ne_of_gt (blk_lt (g := gb249) (o := .cells #[.int .i64 a0_0, .int .i64 a0_1, .int .i64 a0_2, .int .i64 a0_3, .slice A0_4 l0_4.length c0_4, .slice A0_5 l0_5.length c0_5, .int .u64 a0_6, .int .i64 a0_7] 142 (0, 0)) (by (with_reducible repeat (first | refine blk_drewN ?_ _ | refine blk_drew ?_ | refine blk_alloc ?_ _)); exact BK249.out)) : gb250 ≠ gb249)); clear BK249; clear HB; have BK249 := n0_; have HB := n1_; have BK250 := n2_; have GW250 := n3_; have GE250 := n4_; have NB249_250 := n5_; have NB250_249 := n6_; clear n0_ n1_ n2_ n3_ n4_ n5_ n6_; clear hb hbox hg; have hnb31 := NB249_250.out; have hnc31 := NB250_249.out; have hcz32_0 : w30.cell? ⟨gb249, 0, none⟩ = some (.int .i64 a0_0) := (blk_cell BK249.out 0).trans rfl; have hcz32_1 : w30.cell? ⟨gb249, 1, none⟩ = some (.int .i64 a0_1) := (blk_cell BK249.out 1).trans rfl; have hcz32_2 : w30.cell? ⟨gb249, 2, none⟩ = some (.int .i64 a0_2) := (blk_cell BK249.out 2).trans rfl; have hcz32_3 : w30.cell? ⟨gb249, 3, none⟩ = some (.int .i64 a0_3) := (blk_cell BK249.out 3).trans rfl; have hcz32_4 : w30.cell? ⟨gb249, 4, none⟩ = some (.slice A0_4 l0_4.length c0_4) := (blk_cell BK249.out 4).trans rfl; have hcz32_5 : w30.cell? ⟨gb249, 5, none⟩ = some (.slice A0_5 l0_5.length c0_5) := (blk_cell BK249.out 5).trans rfl; have hcz32_6 : w30.cell? ⟨gb249, 6, none⟩ = some (.int .u64 a0_6) := (blk_cell BK249.out 6).trans rfl; have hcz32_7 : w30.cell? ⟨gb249, 7, none⟩ = some (.int .i64 a0_7) := (blk_cell BK249.out 7).trans rfl; have hfz32_0 := blk_frozen BK249.out 0; have hfz32_1 := blk_frozen BK249.out 1; have hfz32_2 := blk_frozen BK249.out 2; have hfz32_3 := blk_frozen BK249.out 3; have hfz32_4 := blk_frozen BK249.out 4; have hfz32_5 := blk_frozen BK249.out 5; have hfz32_6 := blk_frozen BK249.out 6; have hfz32_7 := blk_frozen BK249.out 7) | ((with_reducible refine gate_callee (f := 177) rfl ?_); refine goesL_ (some 23) rfl rfl Try.func177 (by kernel_rfl) rfl #[.bool false] rfl (by (try simp only [List.map_toArray, List.map_cons, List.map_nil]); first | done | rfl | (simp only [List.length_drop, List.length_take]; rfl)) ?_; (with_reducible refine (impl_boolValue.calls false t264 t265 t266 t267 _ A28.out).mono ?_); rintro e w33 ⟨rfl, hb⟩; refine ⟨_, rfl, ?_⟩; have n0_ := Aside0.mk (blk_below (g := gb249) (o := .cells #[.int .i64 a0_0, .int .i64 a0_1, .int .i64 a0_2, .int .i64 a0_3, .slice A0_4 l0_4.length c0_4, .slice A0_5 l0_5.length c0_5, .int .u64 a0_6, .int .i64 a0_7] 142 (0, 0)) (by (with_reducible repeat (first | refine blk_drewN ?_ _ | refine blk_drew ?_ | refine blk_alloc ?_ _)); exact BK249.out) hb); have n1_ := Aside0.mk (blk_below (g := gb250) (o := .cells #[.int .i64 0, .int .u64 0, .string (⟨#[]⟩ : ByteArray), .int .i64 0] 75 (0, 0)) (by (with_reducible repeat (first | refine blk_drewN ?_ _ | refine blk_drew ?_ | refine blk_alloc ?_ _)); exact BK250.out) hb); have n2_ := Aside0.mk (below_step (by repeat (first | (with_reducible first | exact HB.out | apply below_alloc | apply pw_below_drewN | apply below_drew1 | refine below_set ?_ GE249.out | refine below_set ?_ GE250.out) | exact HB.out)) hb); clear BK249; clear BK250; clear HB; have BK249 := n0_; have BK250 := n1_; have HB := n2_; clear n0_ n1_ n2_; (try clear hb); (try clear hb2); (try clear hk); (try clear hi); have hcz34_0 : w33.cell? ⟨gb250, 0, none⟩ = some (.int .i64 0) := (blk_cell BK250.out 0).trans rfl; have hcz34_1 : w33.cell? ⟨gb250, 1, none⟩ = some (.int .u64 0) := (blk_cell BK250.out 1).trans rfl; have hcz34_2 : w33.cell? ⟨gb250, 2, none⟩ = some (.string (⟨#[]⟩ : ByteArray)) := (blk_cell BK250.out 2).trans rfl; have hcz34_3 : w33.cell? ⟨gb250, 3, none⟩ = some (.int .i64 0) := (blk_cell BK250.out 3).trans rfl; have hfz34_0 := blk_frozen BK250.out 0; have hfz34_1 := blk_frozen BK250.out 1; have hfz34_2 := blk_frozen BK250.out 2; have hfz34_3 := blk_frozen BK250.out 3))
          refine bodyPost_ret (results_ct rfl _ _ gb250 75 #[.int .i64 t264, .int .u64 t265, .string t266, .int .i64 t267] (0, 0) _ rfl (by (with_reducible repeat (first | refine blk_drewN ?_ _ | refine blk_drew ?_ | refine blk_alloc ?_ _)); refine blk_put (cs := #[.int .i64 t264, .int .u64 t265, .string t266, .int .i64 0]) ?_ 3 _ rfl; (with_reducible repeat (first | refine blk_drewN ?_ _ | refine blk_drew ?_ | refine blk_alloc ?_ _)); refine blk_put (cs := #[.int .i64 t264, .int .u64 t265, .string (⟨#[]⟩ : ByteArray), .int .i64 0]) ?_ 2 _ rfl; (with_reducible repeat (first | refine blk_drewN ?_ _ | refine blk_drew ?_ | refine blk_alloc ?_ _)); refine blk_put (cs := #[.int .i64 t264, .int .u64 0, .string (⟨#[]⟩ : ByteArray), .int .i64 0]) ?_ 1 _ rfl; (with_reducible repeat (first | refine blk_drewN ?_ _ | refine blk_drew ?_ | refine blk_alloc ?_ _)); refine blk_put (cs := #[.int .i64 0, .int .u64 0, .string (⟨#[]⟩ : ByteArray), .int .i64 0]) ?_ 0 _ rfl; (with_reducible repeat (first | refine blk_drewN ?_ _ | refine blk_drew ?_ | refine blk_alloc ?_ _)); exact BK250.out) Try.underlying75 rfl (by kernel_rfl)) rfl ?_
          exact ⟨by first | rfl | (simp; done) | (simp [errW_none, errW_some] <;> rfl) | (simp [*, errW_none, errW_some] <;> rfl) | (simp [bne, List.isEmpty_iff]; done) | (rw [Bool.eq_iff_iff]; simp), by repeat (first | (with_reducible first | exact HB.out | apply below_alloc | apply pw_below_drewN | apply below_drew1 | refine below_set ?_ GE249.out | refine below_set ?_ GE250.out) | exact HB.out)⟩
        · rw [if_neg c27] at H
          have c27b0 : (a0_0 == 4) = false := beq_eq_false_iff_ne.mpr c27
          have c27b1 : (a0_0 != 4) = true := bne_iff_ne.mpr c27
          by_cases c35 : a0_0 = 5
          · rw [if_pos c35] at H
            have c35b0 : (a0_0 == 5) = true := beq_iff_eq.mpr c35
            have c35b1 : (a0_0 != 5) = false := bne_eq_false_iff_eq.mpr c35
            clear c35
            simp only [Option.some.injEq, Prod.mk.injEq] at H
            obtain ⟨rfl, rfl, rfl, rfl, rfl⟩ := H
            go_enter Try.func116, Try.ntmps116
            go_wp2_with (first | ((with_reducible refine gate_dst (N := 1) rfl ?_); refine box_event ?hg (N := 1) ?hd (cs := #[.int .i64 a0_0, .int .i64 a0_1, .int .i64 a0_2, .int .i64 a0_3, .slice A0_4 l0_4.length c0_4, .slice A0_5 l0_5.length c0_5, .int .u64 a0_6, .int .i64 a0_7]) (t := 142) ?hr ?_; (case hd => rfl); (case hg => rfl); (case hr => first | (go_simp; done) | (go_simp; rfl)); intro gb249 hg w36 hbox hb; have n0_ := Aside0.mk (below_step (by repeat (first | (with_reducible first | exact HB.out | apply below_alloc | apply pw_below_drewN | apply below_drew1) | exact HB.out)) hb); have n1_ := Aside0.mk (hbox); have n2_ := Aside0.mk ((by rw [hg]; exact (below_size (by repeat (first | (with_reducible first | exact HB.out | apply below_alloc | apply pw_below_drewN | apply below_drew1) | exact HB.out))) : w.heap.size ≤ gb249)); have n3_ := Aside0.mk ((by rw [hg]; exact (below_size (by repeat (first | (with_reducible first | exact HB.out | apply below_alloc | apply pw_below_drewN | apply below_drew1) | exact HB.out))) : w.heap.size ≤ gb249)); clear HB; have HB := n0_; have BK249 := n1_; have GW249 := n2_; have GE249 := n3_; clear n0_ n1_ n2_ n3_; clear hb hbox hg) | ((with_reducible refine gate_dst (N := 2) rfl ?_); refine box_event ?hg (N := 2) ?hd (cs := #[.int .i64 0, .int .u64 0, .string (⟨#[]⟩ : ByteArray), .int .i64 0]) (t := 75) ?hr ?_; (case hd => rfl); (case hg => rfl); (case hr => first | (go_simp; done) | (go_simp; rfl)); intro gb250 hg w37 hbox hb; have n0_ := Aside0.mk (blk_below (g := gb249) (o := .cells #[.int .i64 a0_0, .int .i64 a0_1, .int .i64 a0_2, .int .i64 a0_3, .slice A0_4 l0_4.length c0_4, .slice A0_5 l0_5.length c0_5, .int .u64 a0_6, .int .i64 a0_7] 142 (0, 0)) (by (with_reducible repeat (first | refine blk_drewN ?_ _ | refine blk_drew ?_ | refine blk_alloc ?_ _)); exact BK249.out) hb); have n1_ := Aside0.mk (below_step (by repeat (first | (with_reducible first | exact HB.out | apply below_alloc | apply pw_below_drewN | apply below_drew1 | refine below_set ?_ GE249.out) | exact HB.out)) hb); have n2_ := Aside0.mk (hbox); have n3_ := Aside0.mk ((by rw [hg]; exact (below_size (by repeat (first | (with_reducible first | exact HB.out | apply below_alloc | apply pw_below_drewN | apply below_drew1 | refine below_set ?_ GE249.out) | exact HB.out))) : w.heap.size ≤ gb250)); have n4_ := Aside0.mk ((by rw [hg]; exact (below_size (by repeat (first | (with_reducible first | exact HB.out | apply below_alloc | apply pw_below_drewN | apply below_drew1 | refine below_set ?_ GE249.out) | exact HB.out))) : w.heap.size ≤ gb250)); have n5_ := Aside0.mk ((by rw [hg]; exact Nat.ne_of_lt (blk_lt (g := gb249) (o := .cells #[.int .i64 a0_0, .int .i64 a0_1, .int .i64 a0_2, .int .i64 a0_3, .slice A0_4 l0_4.length c0_4, .slice A0_5 l0_5.length c0_5, .int .u64 a0_6, .int .i64 a0_7] 142 (0, 0)) (by (with_reducible repeat (first | refine blk_drewN ?_ _ | refine blk_drew ?_ | refine blk_alloc ?_ _)); exact BK249.out)) : gb249 ≠ gb250)); have n6_ := Aside0.mk ((by rw [hg]; exact Nat.ne_of_gt (blk_lt (g := gb249) (o := .cells #[.int .i64 a0_0, .int .i64 a0_1, .int .i64 a0_2, .int .i64 a0_3, .slice A0_4 l0_4.length c0_4, .slice A0_5 l0_5.length c0_5, .int .u64 a0_6, .int .i64 a0_7] 142 (0, 0)) (by (with_reducible repeat (first | refine blk_drewN ?_ _ | refine blk_drew ?_ | refine blk_alloc ?_ _)); exact BK249.out)) : gb250 ≠ gb249)); clear BK249; clear HB; have BK249 := n0_; have HB := n1_; have BK250 := n2_; have GW250 := n3_; have GE250 := n4_; have NB249_250 := n5_; have NB250_249 := n6_; clear n0_ n1_ n2_ n3_ n4_ n5_ n6_; clear hb hbox hg; have hnb38 := NB249_250.out; have hnc38 := NB250_249.out; have hcz39_0 : w37.cell? ⟨gb249, 0, none⟩ = some (.int .i64 a0_0) := (blk_cell BK249.out 0).trans rfl; have hcz39_1 : w37.cell? ⟨gb249, 1, none⟩ = some (.int .i64 a0_1) := (blk_cell BK249.out 1).trans rfl; have hcz39_2 : w37.cell? ⟨gb249, 2, none⟩ = some (.int .i64 a0_2) := (blk_cell BK249.out 2).trans rfl; have hcz39_3 : w37.cell? ⟨gb249, 3, none⟩ = some (.int .i64 a0_3) := (blk_cell BK249.out 3).trans rfl; have hcz39_4 : w37.cell? ⟨gb249, 4, none⟩ = some (.slice A0_4 l0_4.length c0_4) := (blk_cell BK249.out 4).trans rfl; have hcz39_5 : w37.cell? ⟨gb249, 5, none⟩ = some (.slice A0_5 l0_5.length c0_5) := (blk_cell BK249.out 5).trans rfl; have hcz39_6 : w37.cell? ⟨gb249, 6, none⟩ = some (.int .u64 a0_6) := (blk_cell BK249.out 6).trans rfl; have hcz39_7 : w37.cell? ⟨gb249, 7, none⟩ = some (.int .i64 a0_7) := (blk_cell BK249.out 7).trans rfl; have hfz39_0 := blk_frozen BK249.out 0; have hfz39_1 := blk_frozen BK249.out 1; have hfz39_2 := blk_frozen BK249.out 2; have hfz39_3 := blk_frozen BK249.out 3; have hfz39_4 := blk_frozen BK249.out 4; have hfz39_5 := blk_frozen BK249.out 5; have hfz39_6 := blk_frozen BK249.out 6; have hfz39_7 := blk_frozen BK249.out 7; have hcz40_0 : w37.cell? ⟨gb250, 0, none⟩ = some (.int .i64 0) := (blk_cell BK250.out 0).trans rfl; have hcz40_1 : w37.cell? ⟨gb250, 1, none⟩ = some (.int .u64 0) := (blk_cell BK250.out 1).trans rfl; have hcz40_2 : w37.cell? ⟨gb250, 2, none⟩ = some (.string (⟨#[]⟩ : ByteArray)) := (blk_cell BK250.out 2).trans rfl; have hcz40_3 : w37.cell? ⟨gb250, 3, none⟩ = some (.int .i64 0) := (blk_cell BK250.out 3).trans rfl; have hfz40_0 := blk_frozen BK250.out 0; have hfz40_1 := blk_frozen BK250.out 1; have hfz40_2 := blk_frozen BK250.out 2; have hfz40_3 := blk_frozen BK250.out 3))
            refine bodyPost_ret (results_ct rfl _ _ gb250 75 #[.int .i64 0, .int .u64 0, .string (⟨#[]⟩ : ByteArray), .int .i64 0] (0, 0) _ rfl (by (with_reducible repeat (first | refine blk_drewN ?_ _ | refine blk_drew ?_ | refine blk_alloc ?_ _)); refine blk_put (cs := #[.int .i64 0, .int .u64 0, .string (⟨#[]⟩ : ByteArray), .int .i64 0]) ?_ 3 _ rfl; (with_reducible repeat (first | refine blk_drewN ?_ _ | refine blk_drew ?_ | refine blk_alloc ?_ _)); refine blk_put (cs := #[.int .i64 0, .int .u64 0, .string (⟨#[]⟩ : ByteArray), .int .i64 0]) ?_ 2 _ rfl; (with_reducible repeat (first | refine blk_drewN ?_ _ | refine blk_drew ?_ | refine blk_alloc ?_ _)); refine blk_put (cs := #[.int .i64 0, .int .u64 0, .string (⟨#[]⟩ : ByteArray), .int .i64 0]) ?_ 1 _ rfl; (with_reducible repeat (first | refine blk_drewN ?_ _ | refine blk_drew ?_ | refine blk_alloc ?_ _)); refine blk_put (cs := #[.int .i64 0, .int .u64 0, .string (⟨#[]⟩ : ByteArray), .int .i64 0]) ?_ 0 _ rfl; (with_reducible repeat (first | refine blk_drewN ?_ _ | refine blk_drew ?_ | refine blk_alloc ?_ _)); exact BK250.out) Try.underlying75 rfl (by kernel_rfl)) rfl ?_
            exact ⟨by first | rfl | (simp; done) | (simp [errW_none, errW_some] <;> rfl) | (simp [*, errW_none, errW_some] <;> rfl) | (simp [bne, List.isEmpty_iff]; done) | (rw [Bool.eq_iff_iff]; simp), by repeat (first | (with_reducible first | exact HB.out | apply below_alloc | apply pw_below_drewN | apply below_drew1 | refine below_set ?_ GE249.out | refine below_set ?_ GE250.out) | exact HB.out)⟩
          · rw [if_neg c35] at H
            have c35b0 : (a0_0 == 5) = false := beq_eq_false_iff_ne.mpr c35
            have c35b1 : (a0_0 != 5) = true := bne_iff_ne.mpr c35
            simp only [Option.some.injEq, Prod.mk.injEq] at H
            obtain ⟨rfl, rfl, rfl, rfl, rfl⟩ := H
            go_enter Try.func116, Try.ntmps116
            go_wp2_with (first | ((with_reducible refine gate_dst (N := 1) rfl ?_); refine box_event ?hg (N := 1) ?hd (cs := #[.int .i64 a0_0, .int .i64 a0_1, .int .i64 a0_2, .int .i64 a0_3, .slice A0_4 l0_4.length c0_4, .slice A0_5 l0_5.length c0_5, .int .u64 a0_6, .int .i64 a0_7]) (t := 142) ?hr ?_; (case hd => rfl); (case hg => rfl); (case hr => first | (go_simp; done) | (go_simp; rfl)); intro gb249 hg w41 hbox hb; have n0_ := Aside0.mk (below_step (by repeat (first | (with_reducible first | exact HB.out | apply below_alloc | apply pw_below_drewN | apply below_drew1) | exact HB.out)) hb); have n1_ := Aside0.mk (hbox); have n2_ := Aside0.mk ((by rw [hg]; exact (below_size (by repeat (first | (with_reducible first | exact HB.out | apply below_alloc | apply pw_below_drewN | apply below_drew1) | exact HB.out))) : w.heap.size ≤ gb249)); have n3_ := Aside0.mk ((by rw [hg]; exact (below_size (by repeat (first | (with_reducible first | exact HB.out | apply below_alloc | apply pw_below_drewN | apply below_drew1) | exact HB.out))) : w.heap.size ≤ gb249)); clear HB; have HB := n0_; have BK249 := n1_; have GW249 := n2_; have GE249 := n3_; clear n0_ n1_ n2_ n3_; clear hb hbox hg) | ((with_reducible refine gate_dst (N := 2) rfl ?_); refine box_event ?hg (N := 2) ?hd (cs := #[.int .i64 0, .int .u64 0, .string (⟨#[]⟩ : ByteArray), .int .i64 0]) (t := 75) ?hr ?_; (case hd => rfl); (case hg => rfl); (case hr => first | (go_simp; done) | (go_simp; rfl)); intro gb250 hg w42 hbox hb; have n0_ := Aside0.mk (blk_below (g := gb249) (o := .cells #[.int .i64 a0_0, .int .i64 a0_1, .int .i64 a0_2, .int .i64 a0_3, .slice A0_4 l0_4.length c0_4, .slice A0_5 l0_5.length c0_5, .int .u64 a0_6, .int .i64 a0_7] 142 (0, 0)) (by (with_reducible repeat (first | refine blk_drewN ?_ _ | refine blk_drew ?_ | refine blk_alloc ?_ _)); exact BK249.out) hb); have n1_ := Aside0.mk (below_step (by repeat (first | (with_reducible first | exact HB.out | apply below_alloc | apply pw_below_drewN | apply below_drew1 | refine below_set ?_ GE249.out) | exact HB.out)) hb); have n2_ := Aside0.mk (hbox); have n3_ := Aside0.mk ((by rw [hg]; exact (below_size (by repeat (first | (with_reducible first | exact HB.out | apply below_alloc | apply pw_below_drewN | apply below_drew1 | refine below_set ?_ GE249.out) | exact HB.out))) : w.heap.size ≤ gb250)); have n4_ := Aside0.mk ((by rw [hg]; exact (below_size (by repeat (first | (with_reducible first | exact HB.out | apply below_alloc | apply pw_below_drewN | apply below_drew1 | refine below_set ?_ GE249.out) | exact HB.out))) : w.heap.size ≤ gb250)); have n5_ := Aside0.mk ((by rw [hg]; exact Nat.ne_of_lt (blk_lt (g := gb249) (o := .cells #[.int .i64 a0_0, .int .i64 a0_1, .int .i64 a0_2, .int .i64 a0_3, .slice A0_4 l0_4.length c0_4, .slice A0_5 l0_5.length c0_5, .int .u64 a0_6, .int .i64 a0_7] 142 (0, 0)) (by (with_reducible repeat (first | refine blk_drewN ?_ _ | refine blk_drew ?_ | refine blk_alloc ?_ _)); exact BK249.out)) : gb249 ≠ gb250)); have n6_ := Aside0.mk ((by rw [hg]; exact Nat.ne_of_gt (blk_lt (g := gb249) (o := .cells #[.int .i64 a0_0, .int .i64 a0_1, .int .i64 a0_2, .int .i64 a0_3, .slice A0_4 l0_4.length c0_4, .slice A0_5 l0_5.length c0_5, .int .u64 a0_6, .int .i64 a0_7] 142 (0, 0)) (by (with_reducible repeat (first | refine blk_drewN ?_ _ | refine blk_drew ?_ | refine blk_alloc ?_ _)); exact BK249.out)) : gb250 ≠ gb249)); clear BK249; clear HB; have BK249 := n0_; have HB := n1_; have BK250 := n2_; have GW250 := n3_; have GE250 := n4_; have NB249_250 := n5_; have NB250_249 := n6_; clear n0_ n1_ n2_ n3_ n4_ n5_ n6_; clear hb hbox hg; have hnb43 := NB249_250.out; have hnc43 := NB250_249.out; have hcz44_0 : w42.cell? ⟨gb249, 0, none⟩ = some (.int .i64 a0_0) := (blk_cell BK249.out 0).trans rfl; have hcz44_1 : w42.cell? ⟨gb249, 1, none⟩ = some (.int .i64 a0_1) := (blk_cell BK249.out 1).trans rfl; have hcz44_2 : w42.cell? ⟨gb249, 2, none⟩ = some (.int .i64 a0_2) := (blk_cell BK249.out 2).trans rfl; have hcz44_3 : w42.cell? ⟨gb249, 3, none⟩ = some (.int .i64 a0_3) := (blk_cell BK249.out 3).trans rfl; have hcz44_4 : w42.cell? ⟨gb249, 4, none⟩ = some (.slice A0_4 l0_4.length c0_4) := (blk_cell BK249.out 4).trans rfl; have hcz44_5 : w42.cell? ⟨gb249, 5, none⟩ = some (.slice A0_5 l0_5.length c0_5) := (blk_cell BK249.out 5).trans rfl; have hcz44_6 : w42.cell? ⟨gb249, 6, none⟩ = some (.int .u64 a0_6) := (blk_cell BK249.out 6).trans rfl; have hcz44_7 : w42.cell? ⟨gb249, 7, none⟩ = some (.int .i64 a0_7) := (blk_cell BK249.out 7).trans rfl; have hfz44_0 := blk_frozen BK249.out 0; have hfz44_1 := blk_frozen BK249.out 1; have hfz44_2 := blk_frozen BK249.out 2; have hfz44_3 := blk_frozen BK249.out 3; have hfz44_4 := blk_frozen BK249.out 4; have hfz44_5 := blk_frozen BK249.out 5; have hfz44_6 := blk_frozen BK249.out 6; have hfz44_7 := blk_frozen BK249.out 7; have hcz45_0 : w42.cell? ⟨gb250, 0, none⟩ = some (.int .i64 0) := (blk_cell BK250.out 0).trans rfl; have hcz45_1 : w42.cell? ⟨gb250, 1, none⟩ = some (.int .u64 0) := (blk_cell BK250.out 1).trans rfl; have hcz45_2 : w42.cell? ⟨gb250, 2, none⟩ = some (.string (⟨#[]⟩ : ByteArray)) := (blk_cell BK250.out 2).trans rfl; have hcz45_3 : w42.cell? ⟨gb250, 3, none⟩ = some (.int .i64 0) := (blk_cell BK250.out 3).trans rfl; have hfz45_0 := blk_frozen BK250.out 0; have hfz45_1 := blk_frozen BK250.out 1; have hfz45_2 := blk_frozen BK250.out 2; have hfz45_3 := blk_frozen BK250.out 3))
            refine bodyPost_ret (results_ct rfl _ _ gb250 75 #[.int .i64 0, .int .u64 0, .string (⟨#[]⟩ : ByteArray), .int .i64 0] (0, 0) _ rfl (by (with_reducible repeat (first | refine blk_drewN ?_ _ | refine blk_drew ?_ | refine blk_alloc ?_ _)); refine blk_put (cs := #[.int .i64 0, .int .u64 0, .string (⟨#[]⟩ : ByteArray), .int .i64 0]) ?_ 3 _ rfl; (with_reducible repeat (first | refine blk_drewN ?_ _ | refine blk_drew ?_ | refine blk_alloc ?_ _)); refine blk_put (cs := #[.int .i64 0, .int .u64 0, .string (⟨#[]⟩ : ByteArray), .int .i64 0]) ?_ 2 _ rfl; (with_reducible repeat (first | refine blk_drewN ?_ _ | refine blk_drew ?_ | refine blk_alloc ?_ _)); refine blk_put (cs := #[.int .i64 0, .int .u64 0, .string (⟨#[]⟩ : ByteArray), .int .i64 0]) ?_ 1 _ rfl; (with_reducible repeat (first | refine blk_drewN ?_ _ | refine blk_drew ?_ | refine blk_alloc ?_ _)); refine blk_put (cs := #[.int .i64 0, .int .u64 0, .string (⟨#[]⟩ : ByteArray), .int .i64 0]) ?_ 0 _ rfl; (with_reducible repeat (first | refine blk_drewN ?_ _ | refine blk_drew ?_ | refine blk_alloc ?_ _)); exact BK250.out) Try.underlying75 rfl (by kernel_rfl)) rfl ?_
            exact ⟨by first | rfl | (simp; done) | (simp [errW_none, errW_some] <;> rfl) | (simp [*, errW_none, errW_some] <;> rfl) | (simp [bne, List.isEmpty_iff]; done) | (rw [Bool.eq_iff_iff]; simp), by repeat (first | (with_reducible first | exact HB.out | apply below_alloc | apply pw_below_drewN | apply below_drew1 | refine below_set ?_ GE249.out | refine below_set ?_ GE250.out) | exact HB.out)⟩
-- NOT PRINTED: function 60 (impl_ConstOf)
def laws_eqValue.f (a0_0 : Int) (a0_1 : Int) (a0_2 : ByteArray) (a0_3 : Int) (a1_0 : Int) (a1_1 : Int) (a1_2 : ByteArray) (a1_3 : Int) : Option (Bool) := if a0_0 = a1_0 then (if a0_1 = a1_1 then (if a0_2.toList = a1_2.toList then (if a0_3 = a1_3 then (some true) else (some false)) else (some false)) else (some false)) else (some false)
set_option maxHeartbeats 8000000 in
set_option maxRecDepth 100000 in
theorem laws_eqValue.calls (a0_0 : Int) (a0_1 : Int) (a0_2 : ByteArray) (a0_3 : Int) (a1_0 : Int) (a1_1 : Int) (a1_2 : ByteArray) (a1_3 : Int) (r : Bool) (w : World) (h : laws_eqValue.f a0_0 a0_1 a0_2 a0_3 a1_0 a1_1 a1_2 a1_3 = some r) :
    Calls Try.prog 61 #[.agg #[.int .i64 a0_0, .int .u64 a0_1, .string a0_2, .int .i64 a0_3], .agg #[.int .i64 a1_0, .int .u64 a1_1, .string a1_2, .int .i64 a1_3]] w fun e w' => e = .returned (.bool r) ∧ Below w.heap.size w w' := by
  have hu75 := Try.underlying75
  have HB := Aside0.mk (Below.refl w.heap.size w)
  have H : (if a0_0 = a1_0 then (if a0_1 = a1_1 then (if a0_2.toList = a1_2.toList then (if a0_3 = a1_3 then (some true) else (some false)) else (some false)) else (some false)) else (some false)) = some r := h
  clear h
  by_cases c3 : a0_0 = a1_0
  · rw [if_pos c3] at H
    have c3b0 : (a0_0 == a1_0) = true := beq_iff_eq.mpr c3
    have c3b1 : (a0_0 != a1_0) = false := bne_eq_false_iff_eq.mpr c3
    clear c3
    by_cases c4 : a0_1 = a1_1
    · rw [if_pos c4] at H
      have c4b0 : (a0_1 == a1_1) = true := beq_iff_eq.mpr c4
      have c4b1 : (a0_1 != a1_1) = false := bne_eq_false_iff_eq.mpr c4
      clear c4
      by_cases c5 : a0_2.toList = a1_2.toList
      · rw [if_pos c5] at H
        have c5b0 : (a0_2.toList == a1_2.toList) = true := beq_iff_eq.mpr c5
        have c5b1 : (a0_2.toList != a1_2.toList) = false := bne_eq_false_iff_eq.mpr c5
        clear c5
        by_cases c6 : a0_3 = a1_3
        · rw [if_pos c6] at H
          have c6b0 : (a0_3 == a1_3) = true := beq_iff_eq.mpr c6
          have c6b1 : (a0_3 != a1_3) = false := bne_eq_false_iff_eq.mpr c6
          clear c6
          obtain rfl := Option.some.inj H
          go_enter Try.func61, Try.ntmps61
          go_wp2_with (first | ((with_reducible refine gate_dst (N := 2) rfl ?_); refine box_event ?hg (N := 2) ?hd (cs := #[.int .i64 a0_0, .int .u64 a0_1, .string a0_2, .int .i64 a0_3]) (t := 75) ?hr ?_; (case hd => rfl); (case hg => rfl); (case hr => first | (go_simp; done) | (go_simp; rfl)); intro gb269 hg w7 hbox hb; have n0_ := Aside0.mk (below_step (by repeat (first | (with_reducible first | exact HB.out | apply below_alloc | apply pw_below_drewN | apply below_drew1) | exact HB.out)) hb); have n1_ := Aside0.mk (hbox); have n2_ := Aside0.mk ((by rw [hg]; exact (below_size (by repeat (first | (with_reducible first | exact HB.out | apply below_alloc | apply pw_below_drewN | apply below_drew1) | exact HB.out))) : w.heap.size ≤ gb269)); have n3_ := Aside0.mk ((by rw [hg]; exact (below_size (by repeat (first | (with_reducible first | exact HB.out | apply below_alloc | apply pw_below_drewN | apply below_drew1) | exact HB.out))) : w.heap.size ≤ gb269)); clear HB; have HB := n0_; have BK269 := n1_; have GW269 := n2_; have GE269 := n3_; clear n0_ n1_ n2_ n3_; clear hb hbox hg) | ((with_reducible refine gate_dst (N := 3) rfl ?_); refine box_event ?hg (N := 3) ?hd (cs := #[.int .i64 a1_0, .int .u64 a1_1, .string a1_2, .int .i64 a1_3]) (t := 75) ?hr ?_; (case hd => rfl); (case hg => rfl); (case hr => first | (go_simp; done) | (go_simp; rfl)); intro gb270 hg w8 hbox hb; have n0_ := Aside0.mk (blk_below (g := gb269) (o := .cells #[.int .i64 a0_0, .int .u64 a0_1, .string a0_2, .int .i64 a0_3] 75 (0, 0)) (by (with_reducible repeat (first | refine blk_drewN ?_ _ | refine blk_drew ?_ | refine blk_alloc ?_ _)); exact BK269.out) hb); have n1_ := Aside0.mk (below_step (by repeat (first | (with_reducible first | exact HB.out | apply below_alloc | apply pw_below_drewN | apply below_drew1 | refine below_set ?_ GE269.out) | exact HB.out)) hb); have n2_ := Aside0.mk (hbox); have n3_ := Aside0.mk ((by rw [hg]; exact (below_size (by repeat (first | (with_reducible first | exact HB.out | apply below_alloc | apply pw_below_drewN | apply below_drew1 | refine below_set ?_ GE269.out) | exact HB.out))) : w.heap.size ≤ gb270)); have n4_ := Aside0.mk ((by rw [hg]; exact (below_size (by repeat (first | (with_reducible first | exact HB.out | apply below_alloc | apply pw_below_drewN | apply below_drew1 | refine below_set ?_ GE269.out) | exact HB.out))) : w.heap.size ≤ gb270)); have n5_ := Aside0.mk ((by rw [hg]; exact Nat.ne_of_lt (blk_lt (g := gb269) (o := .cells #[.int .i64 a0_0, .int .u64 a0_1, .string a0_2, .int .i64 a0_3] 75 (0, 0)) (by (with_reducible repeat (first | refine blk_drewN ?_ _ | refine blk_drew ?_ | refine blk_alloc ?_ _)); exact BK269.out)) : gb269 ≠ gb270)); have n6_ := Aside0.mk ((by rw [hg]; exact Nat.ne_of_gt (blk_lt (g := gb269) (o := .cells #[.int .i64 a0_0, .int .u64 a0_1, .string a0_2, .int .i64 a0_3] 75 (0, 0)) (by (with_reducible repeat (first | refine blk_drewN ?_ _ | refine blk_drew ?_ | refine blk_alloc ?_ _)); exact BK269.out)) : gb270 ≠ gb269)); clear BK269; clear HB; have BK269 := n0_; have HB := n1_; have BK270 := n2_; have GW270 := n3_; have GE270 := n4_; have NB269_270 := n5_; have NB270_269 := n6_; clear n0_ n1_ n2_ n3_ n4_ n5_ n6_; clear hb hbox hg; have hnb9 := NB269_270.out; have hnc9 := NB270_269.out; have hcz10_0 : w8.cell? ⟨gb269, 0, none⟩ = some (.int .i64 a0_0) := (blk_cell BK269.out 0).trans rfl; have hcz10_1 : w8.cell? ⟨gb269, 1, none⟩ = some (.int .u64 a0_1) := (blk_cell BK269.out 1).trans rfl; have hcz10_2 : w8.cell? ⟨gb269, 2, none⟩ = some (.string a0_2) := (blk_cell BK269.out 2).trans rfl; have hcz10_3 : w8.cell? ⟨gb269, 3, none⟩ = some (.int .i64 a0_3) := (blk_cell BK269.out 3).trans rfl; have hfz10_0 := blk_frozen BK269.out 0; have hfz10_1 := blk_frozen BK269.out 1; have hfz10_2 := blk_frozen BK269.out 2; have hfz10_3 := blk_frozen BK269.out 3; have hcz11_0 : w8.cell? ⟨gb270, 0, none⟩ = some (.int .i64 a1_0) := (blk_cell BK270.out 0).trans rfl; have hcz11_1 : w8.cell? ⟨gb270, 1, none⟩ = some (.int .u64 a1_1) := (blk_cell BK270.out 1).trans rfl; have hcz11_2 : w8.cell? ⟨gb270, 2, none⟩ = some (.string a1_2) := (blk_cell BK270.out 2).trans rfl; have hcz11_3 : w8.cell? ⟨gb270, 3, none⟩ = some (.int .i64 a1_3) := (blk_cell BK270.out 3).trans rfl; have hfz11_0 := blk_frozen BK270.out 0; have hfz11_1 := blk_frozen BK270.out 1; have hfz11_2 := blk_frozen BK270.out 2; have hfz11_3 := blk_frozen BK270.out 3))
          go_ret
          exact ⟨by first | rfl | (simp; done) | (simp [errW_none, errW_some] <;> rfl) | (simp [*, errW_none, errW_some] <;> rfl) | (simp [bne, List.isEmpty_iff]; done) | (rw [Bool.eq_iff_iff]; simp), by repeat (first | (with_reducible first | exact HB.out | apply below_alloc | apply pw_below_drewN | apply below_drew1 | refine below_set ?_ GE269.out | refine below_set ?_ GE270.out) | exact HB.out)⟩
        · rw [if_neg c6] at H
          have c6b0 : (a0_3 == a1_3) = false := beq_eq_false_iff_ne.mpr c6
          have c6b1 : (a0_3 != a1_3) = true := bne_iff_ne.mpr c6
          obtain rfl := Option.some.inj H
          go_enter Try.func61, Try.ntmps61
          go_wp2_with (first | ((with_reducible refine gate_dst (N := 2) rfl ?_); refine box_event ?hg (N := 2) ?hd (cs := #[.int .i64 a0_0, .int .u64 a0_1, .string a0_2, .int .i64 a0_3]) (t := 75) ?hr ?_; (case hd => rfl); (case hg => rfl); (case hr => first | (go_simp; done) | (go_simp; rfl)); intro gb269 hg w12 hbox hb; have n0_ := Aside0.mk (below_step (by repeat (first | (with_reducible first | exact HB.out | apply below_alloc | apply pw_below_drewN | apply below_drew1) | exact HB.out)) hb); have n1_ := Aside0.mk (hbox); have n2_ := Aside0.mk ((by rw [hg]; exact (below_size (by repeat (first | (with_reducible first | exact HB.out | apply below_alloc | apply pw_below_drewN | apply below_drew1) | exact HB.out))) : w.heap.size ≤ gb269)); have n3_ := Aside0.mk ((by rw [hg]; exact (below_size (by repeat (first | (with_reducible first | exact HB.out | apply below_alloc | apply pw_below_drewN | apply below_drew1) | exact HB.out))) : w.heap.size ≤ gb269)); clear HB; have HB := n0_; have BK269 := n1_; have GW269 := n2_; have GE269 := n3_; clear n0_ n1_ n2_ n3_; clear hb hbox hg) | ((with_reducible refine gate_dst (N := 3) rfl ?_); refine box_event ?hg (N := 3) ?hd (cs := #[.int .i64 a1_0, .int .u64 a1_1, .string a1_2, .int .i64 a1_3]) (t := 75) ?hr ?_; (case hd => rfl); (case hg => rfl); (case hr => first | (go_simp; done) | (go_simp; rfl)); intro gb270 hg w13 hbox hb; have n0_ := Aside0.mk (blk_below (g := gb269) (o := .cells #[.int .i64 a0_0, .int .u64 a0_1, .string a0_2, .int .i64 a0_3] 75 (0, 0)) (by (with_reducible repeat (first | refine blk_drewN ?_ _ | refine blk_drew ?_ | refine blk_alloc ?_ _)); exact BK269.out) hb); have n1_ := Aside0.mk (below_step (by repeat (first | (with_reducible first | exact HB.out | apply below_alloc | apply pw_below_drewN | apply below_drew1 | refine below_set ?_ GE269.out) | exact HB.out)) hb); have n2_ := Aside0.mk (hbox); have n3_ := Aside0.mk ((by rw [hg]; exact (below_size (by repeat (first | (with_reducible first | exact HB.out | apply below_alloc | apply pw_below_drewN | apply below_drew1 | refine below_set ?_ GE269.out) | exact HB.out))) : w.heap.size ≤ gb270)); have n4_ := Aside0.mk ((by rw [hg]; exact (below_size (by repeat (first | (with_reducible first | exact HB.out | apply below_alloc | apply pw_below_drewN | apply below_drew1 | refine below_set ?_ GE269.out) | exact HB.out))) : w.heap.size ≤ gb270)); have n5_ := Aside0.mk ((by rw [hg]; exact Nat.ne_of_lt (blk_lt (g := gb269) (o := .cells #[.int .i64 a0_0, .int .u64 a0_1, .string a0_2, .int .i64 a0_3] 75 (0, 0)) (by (with_reducible repeat (first | refine blk_drewN ?_ _ | refine blk_drew ?_ | refine blk_alloc ?_ _)); exact BK269.out)) : gb269 ≠ gb270)); have n6_ := Aside0.mk ((by rw [hg]; exact Nat.ne_of_gt (blk_lt (g := gb269) (o := .cells #[.int .i64 a0_0, .int .u64 a0_1, .string a0_2, .int .i64 a0_3] 75 (0, 0)) (by (with_reducible repeat (first | refine blk_drewN ?_ _ | refine blk_drew ?_ | refine blk_alloc ?_ _)); exact BK269.out)) : gb270 ≠ gb269)); clear BK269; clear HB; have BK269 := n0_; have HB := n1_; have BK270 := n2_; have GW270 := n3_; have GE270 := n4_; have NB269_270 := n5_; have NB270_269 := n6_; clear n0_ n1_ n2_ n3_ n4_ n5_ n6_; clear hb hbox hg; have hnb14 := NB269_270.out; have hnc14 := NB270_269.out; have hcz15_0 : w13.cell? ⟨gb269, 0, none⟩ = some (.int .i64 a0_0) := (blk_cell BK269.out 0).trans rfl; have hcz15_1 : w13.cell? ⟨gb269, 1, none⟩ = some (.int .u64 a0_1) := (blk_cell BK269.out 1).trans rfl; have hcz15_2 : w13.cell? ⟨gb269, 2, none⟩ = some (.string a0_2) := (blk_cell BK269.out 2).trans rfl; have hcz15_3 : w13.cell? ⟨gb269, 3, none⟩ = some (.int .i64 a0_3) := (blk_cell BK269.out 3).trans rfl; have hfz15_0 := blk_frozen BK269.out 0; have hfz15_1 := blk_frozen BK269.out 1; have hfz15_2 := blk_frozen BK269.out 2; have hfz15_3 := blk_frozen BK269.out 3; have hcz16_0 : w13.cell? ⟨gb270, 0, none⟩ = some (.int .i64 a1_0) := (blk_cell BK270.out 0).trans rfl; have hcz16_1 : w13.cell? ⟨gb270, 1, none⟩ = some (.int .u64 a1_1) := (blk_cell BK270.out 1).trans rfl; have hcz16_2 : w13.cell? ⟨gb270, 2, none⟩ = some (.string a1_2) := (blk_cell BK270.out 2).trans rfl; have hcz16_3 : w13.cell? ⟨gb270, 3, none⟩ = some (.int .i64 a1_3) := (blk_cell BK270.out 3).trans rfl; have hfz16_0 := blk_frozen BK270.out 0; have hfz16_1 := blk_frozen BK270.out 1; have hfz16_2 := blk_frozen BK270.out 2; have hfz16_3 := blk_frozen BK270.out 3))
          go_ret
          exact ⟨by first | rfl | (simp; done) | (simp [errW_none, errW_some] <;> rfl) | (simp [*, errW_none, errW_some] <;> rfl) | (simp [bne, List.isEmpty_iff]; done) | (rw [Bool.eq_iff_iff]; simp), by repeat (first | (with_reducible first | exact HB.out | apply below_alloc | apply pw_below_drewN | apply below_drew1 | refine below_set ?_ GE269.out | refine below_set ?_ GE270.out) | exact HB.out)⟩
      · rw [if_neg c5] at H
        have c5b0 : (a0_2.toList == a1_2.toList) = false := beq_eq_false_iff_ne.mpr c5
        have c5b1 : (a0_2.toList != a1_2.toList) = true := bne_iff_ne.mpr c5
        obtain rfl := Option.some.inj H
        go_enter Try.func61, Try.ntmps61
        go_wp2_with (first | ((with_reducible refine gate_dst (N := 2) rfl ?_); refine box_event ?hg (N := 2) ?hd (cs := #[.int .i64 a0_0, .int .u64 a0_1, .string a0_2, .int .i64 a0_3]) (t := 75) ?hr ?_; (case hd => rfl); (case hg => rfl); (case hr => first | (go_simp; done) | (go_simp; rfl)); intro gb269 hg w17 hbox hb; have n0_ := Aside0.mk (below_step (by repeat (first | (with_reducible first | exact HB.out | apply below_alloc | apply pw_below_drewN | apply below_drew1) | exact HB.out)) hb); have n1_ := Aside0.mk (hbox); have n2_ := Aside0.mk ((by rw [hg]; exact (below_size (by repeat (first | (with_reducible first | exact HB.out | apply below_alloc | apply pw_below_drewN | apply below_drew1) | exact HB.out))) : w.heap.size ≤ gb269)); have n3_ := Aside0.mk ((by rw [hg]; exact (below_size (by repeat (first | (with_reducible first | exact HB.out | apply below_alloc | apply pw_below_drewN | apply below_drew1) | exact HB.out))) : w.heap.size ≤ gb269)); clear HB; have HB := n0_; have BK269 := n1_; have GW269 := n2_; have GE269 := n3_; clear n0_ n1_ n2_ n3_; clear hb hbox hg) | ((with_reducible refine gate_dst (N := 3) rfl ?_); refine box_event ?hg (N := 3) ?hd (cs := #[.int .i64 a1_0, .int .u64 a1_1, .string a1_2, .int .i64 a1_3]) (t := 75) ?hr ?_; (case hd => rfl); (case hg => rfl); (case hr => first | (go_simp; done) | (go_simp; rfl)); intro gb270 hg w18 hbox hb; have n0_ := Aside0.mk (blk_below (g := gb269) (o := .cells #[.int .i64 a0_0, .int .u64 a0_1, .string a0_2, .int .i64 a0_3] 75 (0, 0)) (by (with_reducible repeat (first | refine blk_drewN ?_ _ | refine blk_drew ?_ | refine blk_alloc ?_ _)); exact BK269.out) hb); have n1_ := Aside0.mk (below_step (by repeat (first | (with_reducible first | exact HB.out | apply below_alloc | apply pw_below_drewN | apply below_drew1 | refine below_set ?_ GE269.out) | exact HB.out)) hb); have n2_ := Aside0.mk (hbox); have n3_ := Aside0.mk ((by rw [hg]; exact (below_size (by repeat (first | (with_reducible first | exact HB.out | apply below_alloc | apply pw_below_drewN | apply below_drew1 | refine below_set ?_ GE269.out) | exact HB.out))) : w.heap.size ≤ gb270)); have n4_ := Aside0.mk ((by rw [hg]; exact (below_size (by repeat (first | (with_reducible first | exact HB.out | apply below_alloc | apply pw_below_drewN | apply below_drew1 | refine below_set ?_ GE269.out) | exact HB.out))) : w.heap.size ≤ gb270)); have n5_ := Aside0.mk ((by rw [hg]; exact Nat.ne_of_lt (blk_lt (g := gb269) (o := .cells #[.int .i64 a0_0, .int .u64 a0_1, .string a0_2, .int .i64 a0_3] 75 (0, 0)) (by (with_reducible repeat (first | refine blk_drewN ?_ _ | refine blk_drew ?_ | refine blk_alloc ?_ _)); exact BK269.out)) : gb269 ≠ gb270)); have n6_ := Aside0.mk ((by rw [hg]; exact Nat.ne_of_gt (blk_lt (g := gb269) (o := .cells #[.int .i64 a0_0, .int .u64 a0_1, .string a0_2, .int .i64 a0_3] 75 (0, 0)) (by (with_reducible repeat (first | refine blk_drewN ?_ _ | refine blk_drew ?_ | refine blk_alloc ?_ _)); exact BK269.out)) : gb270 ≠ gb269)); clear BK269; clear HB; have BK269 := n0_; have HB := n1_; have BK270 := n2_; have GW270 := n3_; have GE270 := n4_; have NB269_270 := n5_; have NB270_269 := n6_; clear n0_ n1_ n2_ n3_ n4_ n5_ n6_; clear hb hbox hg; have hnb19 := NB269_270.out; have hnc19 := NB270_269.out; have hcz20_0 : w18.cell? ⟨gb269, 0, none⟩ = some (.int .i64 a0_0) := (blk_cell BK269.out 0).trans rfl; have hcz20_1 : w18.cell? ⟨gb269, 1, none⟩ = some (.int .u64 a0_1) := (blk_cell BK269.out 1).trans rfl; have hcz20_2 : w18.cell? ⟨gb269, 2, none⟩ = some (.string a0_2) := (blk_cell BK269.out 2).trans rfl; have hcz20_3 : w18.cell? ⟨gb269, 3, none⟩ = some (.int .i64 a0_3) := (blk_cell BK269.out 3).trans rfl; have hfz20_0 := blk_frozen BK269.out 0; have hfz20_1 := blk_frozen BK269.out 1; have hfz20_2 := blk_frozen BK269.out 2; have hfz20_3 := blk_frozen BK269.out 3; have hcz21_0 : w18.cell? ⟨gb270, 0, none⟩ = some (.int .i64 a1_0) := (blk_cell BK270.out 0).trans rfl; have hcz21_1 : w18.cell? ⟨gb270, 1, none⟩ = some (.int .u64 a1_1) := (blk_cell BK270.out 1).trans rfl; have hcz21_2 : w18.cell? ⟨gb270, 2, none⟩ = some (.string a1_2) := (blk_cell BK270.out 2).trans rfl; have hcz21_3 : w18.cell? ⟨gb270, 3, none⟩ = some (.int .i64 a1_3) := (blk_cell BK270.out 3).trans rfl; have hfz21_0 := blk_frozen BK270.out 0; have hfz21_1 := blk_frozen BK270.out 1; have hfz21_2 := blk_frozen BK270.out 2; have hfz21_3 := blk_frozen BK270.out 3))
        go_ret
        exact ⟨by first | rfl | (simp; done) | (simp [errW_none, errW_some] <;> rfl) | (simp [*, errW_none, errW_some] <;> rfl) | (simp [bne, List.isEmpty_iff]; done) | (rw [Bool.eq_iff_iff]; simp), by repeat (first | (with_reducible first | exact HB.out | apply below_alloc | apply pw_below_drewN | apply below_drew1 | refine below_set ?_ GE269.out | refine below_set ?_ GE270.out) | exact HB.out)⟩
    · rw [if_neg c4] at H
      have c4b0 : (a0_1 == a1_1) = false := beq_eq_false_iff_ne.mpr c4
      have c4b1 : (a0_1 != a1_1) = true := bne_iff_ne.mpr c4
      obtain rfl := Option.some.inj H
      go_enter Try.func61, Try.ntmps61
      go_wp2_with (first | ((with_reducible refine gate_dst (N := 2) rfl ?_); refine box_event ?hg (N := 2) ?hd (cs := #[.int .i64 a0_0, .int .u64 a0_1, .string a0_2, .int .i64 a0_3]) (t := 75) ?hr ?_; (case hd => rfl); (case hg => rfl); (case hr => first | (go_simp; done) | (go_simp; rfl)); intro gb269 hg w22 hbox hb; have n0_ := Aside0.mk (below_step (by repeat (first | (with_reducible first | exact HB.out | apply below_alloc | apply pw_below_drewN | apply below_drew1) | exact HB.out)) hb); have n1_ := Aside0.mk (hbox); have n2_ := Aside0.mk ((by rw [hg]; exact (below_size (by repeat (first | (with_reducible first | exact HB.out | apply below_alloc | apply pw_below_drewN | apply below_drew1) | exact HB.out))) : w.heap.size ≤ gb269)); have n3_ := Aside0.mk ((by rw [hg]; exact (below_size (by repeat (first | (with_reducible first | exact HB.out | apply below_alloc | apply pw_below_drewN | apply below_drew1) | exact HB.out))) : w.heap.size ≤ gb269)); clear HB; have HB := n0_; have BK269 := n1_; have GW269 := n2_; have GE269 := n3_; clear n0_ n1_ n2_ n3_; clear hb hbox hg) | ((with_reducible refine gate_dst (N := 3) rfl ?_); refine box_event ?hg (N := 3) ?hd (cs := #[.int .i64 a1_0, .int .u64 a1_1, .string a1_2, .int .i64 a1_3]) (t := 75) ?hr ?_; (case hd => rfl); (case hg => rfl); (case hr => first | (go_simp; done) | (go_simp; rfl)); intro gb270 hg w23 hbox hb; have n0_ := Aside0.mk (blk_below (g := gb269) (o := .cells #[.int .i64 a0_0, .int .u64 a0_1, .string a0_2, .int .i64 a0_3] 75 (0, 0)) (by (with_reducible repeat (first | refine blk_drewN ?_ _ | refine blk_drew ?_ | refine blk_alloc ?_ _)); exact BK269.out) hb); have n1_ := Aside0.mk (below_step (by repeat (first | (with_reducible first | exact HB.out | apply below_alloc | apply pw_below_drewN | apply below_drew1 | refine below_set ?_ GE269.out) | exact HB.out)) hb); have n2_ := Aside0.mk (hbox); have n3_ := Aside0.mk ((by rw [hg]; exact (below_size (by repeat (first | (with_reducible first | exact HB.out | apply below_alloc | apply pw_below_drewN | apply below_drew1 | refine below_set ?_ GE269.out) | exact HB.out))) : w.heap.size ≤ gb270)); have n4_ := Aside0.mk ((by rw [hg]; exact (below_size (by repeat (first | (with_reducible first | exact HB.out | apply below_alloc | apply pw_below_drewN | apply below_drew1 | refine below_set ?_ GE269.out) | exact HB.out))) : w.heap.size ≤ gb270)); have n5_ := Aside0.mk ((by rw [hg]; exact Nat.ne_of_lt (blk_lt (g := gb269) (o := .cells #[.int .i64 a0_0, .int .u64 a0_1, .string a0_2, .int .i64 a0_3] 75 (0, 0)) (by (with_reducible repeat (first | refine blk_drewN ?_ _ | refine blk_drew ?_ | refine blk_alloc ?_ _)); exact BK269.out)) : gb269 ≠ gb270)); have n6_ := Aside0.mk ((by rw [hg]; exact Nat.ne_of_gt (blk_lt (g := gb269) (o := .cells #[.int .i64 a0_0, .int .u64 a0_1, .string a0_2, .int .i64 a0_3] 75 (0, 0)) (by (with_reducible repeat (first | refine blk_drewN ?_ _ | refine blk_drew ?_ | refine blk_alloc ?_ _)); exact BK269.out)) : gb270 ≠ gb269)); clear BK269; clear HB; have BK269 := n0_; have HB := n1_; have BK270 := n2_; have GW270 := n3_; have GE270 := n4_; have NB269_270 := n5_; have NB270_269 := n6_; clear n0_ n1_ n2_ n3_ n4_ n5_ n6_; clear hb hbox hg; have hnb24 := NB269_270.out; have hnc24 := NB270_269.out; have hcz25_0 : w23.cell? ⟨gb269, 0, none⟩ = some (.int .i64 a0_0) := (blk_cell BK269.out 0).trans rfl; have hcz25_1 : w23.cell? ⟨gb269, 1, none⟩ = some (.int .u64 a0_1) := (blk_cell BK269.out 1).trans rfl; have hcz25_2 : w23.cell? ⟨gb269, 2, none⟩ = some (.string a0_2) := (blk_cell BK269.out 2).trans rfl; have hcz25_3 : w23.cell? ⟨gb269, 3, none⟩ = some (.int .i64 a0_3) := (blk_cell BK269.out 3).trans rfl; have hfz25_0 := blk_frozen BK269.out 0; have hfz25_1 := blk_frozen BK269.out 1; have hfz25_2 := blk_frozen BK269.out 2; have hfz25_3 := blk_frozen BK269.out 3; have hcz26_0 : w23.cell? ⟨gb270, 0, none⟩ = some (.int .i64 a1_0) := (blk_cell BK270.out 0).trans rfl; have hcz26_1 : w23.cell? ⟨gb270, 1, none⟩ = some (.int .u64 a1_1) := (blk_cell BK270.out 1).trans rfl; have hcz26_2 : w23.cell? ⟨gb270, 2, none⟩ = some (.string a1_2) := (blk_cell BK270.out 2).trans rfl; have hcz26_3 : w23.cell? ⟨gb270, 3, none⟩ = some (.int .i64 a1_3) := (blk_cell BK270.out 3).trans rfl; have hfz26_0 := blk_frozen BK270.out 0; have hfz26_1 := blk_frozen BK270.out 1; have hfz26_2 := blk_frozen BK270.out 2; have hfz26_3 := blk_frozen BK270.out 3))
      go_ret
      exact ⟨by first | rfl | (simp; done) | (simp [errW_none, errW_some] <;> rfl) | (simp [*, errW_none, errW_some] <;> rfl) | (simp [bne, List.isEmpty_iff]; done) | (rw [Bool.eq_iff_iff]; simp), by repeat (first | (with_reducible first | exact HB.out | apply below_alloc | apply pw_below_drewN | apply below_drew1 | refine below_set ?_ GE269.out | refine below_set ?_ GE270.out) | exact HB.out)⟩
  · rw [if_neg c3] at H
    have c3b0 : (a0_0 == a1_0) = false := beq_eq_false_iff_ne.mpr c3
    have c3b1 : (a0_0 != a1_0) = true := bne_iff_ne.mpr c3
    obtain rfl := Option.some.inj H
    go_enter Try.func61, Try.ntmps61
    go_wp2_with (first | ((with_reducible refine gate_dst (N := 2) rfl ?_); refine box_event ?hg (N := 2) ?hd (cs := #[.int .i64 a0_0, .int .u64 a0_1, .string a0_2, .int .i64 a0_3]) (t := 75) ?hr ?_; (case hd => rfl); (case hg => rfl); (case hr => first | (go_simp; done) | (go_simp; rfl)); intro gb269 hg w27 hbox hb; have n0_ := Aside0.mk (below_step (by repeat (first | (with_reducible first | exact HB.out | apply below_alloc | apply pw_below_drewN | apply below_drew1) | exact HB.out)) hb); have n1_ := Aside0.mk (hbox); have n2_ := Aside0.mk ((by rw [hg]; exact (below_size (by repeat (first | (with_reducible first | exact HB.out | apply below_alloc | apply pw_below_drewN | apply below_drew1) | exact HB.out))) : w.heap.size ≤ gb269)); have n3_ := Aside0.mk ((by rw [hg]; exact (below_size (by repeat (first | (with_reducible first | exact HB.out | apply below_alloc | apply pw_below_drewN | apply below_drew1) | exact HB.out))) : w.heap.size ≤ gb269)); clear HB; have HB := n0_; have BK269 := n1_; have GW269 := n2_; have GE269 := n3_; clear n0_ n1_ n2_ n3_; clear hb hbox hg) | ((with_reducible refine gate_dst (N := 3) rfl ?_); refine box_event ?hg (N := 3) ?hd (cs := #[.int .i64 a1_0, .int .u64 a1_1, .string a1_2, .int .i64 a1_3]) (t := 75) ?hr ?_; (case hd => rfl); (case hg => rfl); (case hr => first | (go_simp; done) | (go_simp; rfl)); intro gb270 hg w28 hbox hb; have n0_ := Aside0.mk (blk_below (g := gb269) (o := .cells #[.int .i64 a0_0, .int .u64 a0_1, .string a0_2, .int .i64 a0_3] 75 (0, 0)) (by (with_reducible repeat (first | refine blk_drewN ?_ _ | refine blk_drew ?_ | refine blk_alloc ?_ _)); exact BK269.out) hb); have n1_ := Aside0.mk (below_step (by repeat (first | (with_reducible first | exact HB.out | apply below_alloc | apply pw_below_drewN | apply below_drew1 | refine below_set ?_ GE269.out) | exact HB.out)) hb); have n2_ := Aside0.mk (hbox); have n3_ := Aside0.mk ((by rw [hg]; exact (below_size (by repeat (first | (with_reducible first | exact HB.out | apply below_alloc | apply pw_below_drewN | apply below_drew1 | refine below_set ?_ GE269.out) | exact HB.out))) : w.heap.size ≤ gb270)); have n4_ := Aside0.mk ((by rw [hg]; exact (below_size (by repeat (first | (with_reducible first | exact HB.out | apply below_alloc | apply pw_below_drewN | apply below_drew1 | refine below_set ?_ GE269.out) | exact HB.out))) : w.heap.size ≤ gb270)); have n5_ := Aside0.mk ((by rw [hg]; exact Nat.ne_of_lt (blk_lt (g := gb269) (o := .cells #[.int .i64 a0_0, .int .u64 a0_1, .string a0_2, .int .i64 a0_3] 75 (0, 0)) (by (with_reducible repeat (first | refine blk_drewN ?_ _ | refine blk_drew ?_ | refine blk_alloc ?_ _)); exact BK269.out)) : gb269 ≠ gb270)); have n6_ := Aside0.mk ((by rw [hg]; exact Nat.ne_of_gt (blk_lt (g := gb269) (o := .cells #[.int .i64 a0_0, .int .u64 a0_1, .string a0_2, .int .i64 a0_3] 75 (0, 0)) (by (with_reducible repeat (first | refine blk_drewN ?_ _ | refine blk_drew ?_ | refine blk_alloc ?_ _)); exact BK269.out)) : gb270 ≠ gb269)); clear BK269; clear HB; have BK269 := n0_; have HB := n1_; have BK270 := n2_; have GW270 := n3_; have GE270 := n4_; have NB269_270 := n5_; have NB270_269 := n6_; clear n0_ n1_ n2_ n3_ n4_ n5_ n6_; clear hb hbox hg; have hnb29 := NB269_270.out; have hnc29 := NB270_269.out; have hcz30_0 : w28.cell? ⟨gb269, 0, none⟩ = some (.int .i64 a0_0) := (blk_cell BK269.out 0).trans rfl; have hcz30_1 : w28.cell? ⟨gb269, 1, none⟩ = some (.int .u64 a0_1) := (blk_cell BK269.out 1).trans rfl; have hcz30_2 : w28.cell? ⟨gb269, 2, none⟩ = some (.string a0_2) := (blk_cell BK269.out 2).trans rfl; have hcz30_3 : w28.cell? ⟨gb269, 3, none⟩ = some (.int .i64 a0_3) := (blk_cell BK269.out 3).trans rfl; have hfz30_0 := blk_frozen BK269.out 0; have hfz30_1 := blk_frozen BK269.out 1; have hfz30_2 := blk_frozen BK269.out 2; have hfz30_3 := blk_frozen BK269.out 3; have hcz31_0 : w28.cell? ⟨gb270, 0, none⟩ = some (.int .i64 a1_0) := (blk_cell BK270.out 0).trans rfl; have hcz31_1 : w28.cell? ⟨gb270, 1, none⟩ = some (.int .u64 a1_1) := (blk_cell BK270.out 1).trans rfl; have hcz31_2 : w28.cell? ⟨gb270, 2, none⟩ = some (.string a1_2) := (blk_cell BK270.out 2).trans rfl; have hcz31_3 : w28.cell? ⟨gb270, 3, none⟩ = some (.int .i64 a1_3) := (blk_cell BK270.out 3).trans rfl; have hfz31_0 := blk_frozen BK270.out 0; have hfz31_1 := blk_frozen BK270.out 1; have hfz31_2 := blk_frozen BK270.out 2; have hfz31_3 := blk_frozen BK270.out 3))
    go_ret
    exact ⟨by first | rfl | (simp; done) | (simp [errW_none, errW_some] <;> rfl) | (simp [*, errW_none, errW_some] <;> rfl) | (simp [bne, List.isEmpty_iff]; done) | (rw [Bool.eq_iff_iff]; simp), by repeat (first | (with_reducible first | exact HB.out | apply below_alloc | apply pw_below_drewN | apply below_drew1 | refine below_set ?_ GE269.out | refine below_set ?_ GE270.out) | exact HB.out)⟩
-- NOT PRINTED: function 14 (laws_FnExactConstOf)
end Go.Proofs.Ytlhfhfamifmijaa.QFnExactConstOf
end
section
namespace Go.Proofs.Ytlhfhfamifmijaa.LeafN
open Go.RowKit Go.Proofs.YtlhfhfamifmijaaW.PrintWords Go.Proofs.YtlhfhfamifmijaaW.PrintMore Go.Proofs.Ytlhfhfamifmijaa.Law Go.Proofs.Ytlhfhfamifmijaa.Num Go.Proofs.Ytlhfhfamifmijaa Go.Proofs.Ytlhfhfamifmijaa.QFnExactConstOf
set_option linter.unusedVariables false
set_option linter.unusedSimpArgs false
set_option autoImplicit false
/-- What a node's value is, and whether it has one. -/
def constV (n : Node) : Int × Int × ByteArray × Int × Bool :=
  if n.kind = 1 then (2, n.num, (⟨#[]⟩ : ByteArray), 0, true) else if n.kind = 2 then (3, 0, el ByteArray.empty n.names 0, 0, true)
  else if n.kind = 3 then (1, 1, (⟨#[]⟩ : ByteArray), 0, true) else if n.kind = 4 then (1, 0, (⟨#[]⟩ : ByteArray), 0, true)
  else if n.kind = 5 then (0, 0, (⟨#[]⟩ : ByteArray), 0, true) else (0, 0, (⟨#[]⟩ : ByteArray), 0, false)
def valV (c : Int × Int × ByteArray × Int × Bool) : Value := .agg #[.int .i64 c.1, .int .u64 c.2.1, .string c.2.2.1, .int .i64 c.2.2.2.1]
def noneV : Int × Int × ByteArray × Int × Bool := (0, 0, (⟨#[]⟩ : ByteArray), 0, false)
noncomputable def constB (t : List Node) (x : Int) : Int × Int × ByteArray × Int × Bool := if treeB t = true then if inB x 0 ((t.length : Int) - 1) = true then constV (el zNode t x.toNat) else noneV else noneV
theorem node_names {t : List Node} {i : Int} {n : Node} (h : nodeB t i n = true) (hk : n.kind = 2) : 0 < n.names.length := by
  unfold nodeB at h
  have hu : useOf 2 = ⟨0, 0, 0, 0, 1, false⟩ := rfl
  rw [hk, hu] at h
  by_cases hz : n.names.length = 0
  · have e : shapeB n ⟨0, 0, 0, 0, 1, false⟩ = false := by simp [shapeB, hz]
    rw [e] at h
    simp at h
  · omega
theorem tree_node {t : List Node} (h : treeB t = true) {j : Nat} (hj : j < t.length) : nodeB t j (el zNode t j) = true := by
  unfold treeB at h
  simp only [Bool.and_eq_true] at h
  exact List.all_eq_true.1 h.2.2.1 j (List.mem_range.2 hj)
theorem cConstI_f (n : Node) (h2 : n.kind = 2 → 0 < n.names.length) : impl_constOf.f n.kind n.a n.b n.c n.list n.names n.num n.at_ = some (constV n) := by
  unfold constV
  by_cases k1 : n.kind = 1
  · simp [impl_constOf.f, k1, impl_numberValue.f, impl_boolValue.f, spec_l17Number.f, spec_l17Bool.f]
  by_cases k2 : n.kind = 2
  · have hn : n.names ≠ [] := by have h := h2 k2; intro e; rw [e] at h; exact absurd h (by decide)
    simp [impl_constOf.f, k2, hn, impl_textValue.f, rdOf, el]
  by_cases k3 : n.kind = 3
  · simp [impl_constOf.f, k3, impl_numberValue.f, impl_boolValue.f, spec_l17Number.f, spec_l17Bool.f]
  by_cases k4 : n.kind = 4
  · simp [impl_constOf.f, k4, impl_numberValue.f, impl_boolValue.f, spec_l17Number.f, spec_l17Bool.f]
  by_cases k5 : n.kind = 5
  · simp [impl_constOf.f, k5, impl_numberValue.f, impl_boolValue.f, spec_l17Number.f, spec_l17Bool.f]
  simp [impl_constOf.f, k1, k2, k3, k4, k5]
set_option maxHeartbeats 8000000 in
set_option maxRecDepth 100000 in
theorem cConstI (n : Node) (cs : List Value) (w : World) (hk : kNodeI.K w n cs) (h2 : n.kind = 2 → 0 < n.names.length) :
    Calls Try.prog 116 #[.agg ⟨cs⟩] w fun e w' => e = .returned (.tuple #[valV (constV n), .bool (constV n).2.2.2.2]) ∧ Below w.heap.size w w' := by
  obtain ⟨A4, c4, A5, c5, rfl, h4, g4, h5, g5⟩ := kNodeI_open hk
  exact impl_constOf.calls _ _ _ _ _ _ _ _ _ _ _ _ _ _ _ _ _ w g4 h4 g5 h5 (cConstI_f n h2)
theorem cConstS_f (n : Node) (h2 : n.kind = 2 → 0 < n.names.length) : spec_l22Const.f 20 n.kind n.a n.b n.c n.list n.names n.num n.at_ = some (constV n) := by
  unfold constV
  by_cases k1 : n.kind = 1
  · simp [spec_l22Const.f, k1, impl_numberValue.f, impl_boolValue.f, spec_l17Number.f, spec_l17Bool.f, spec_l22Const.j0]
  by_cases k2 : n.kind = 2
  · have hn : n.names ≠ [] := by have h := h2 k2; intro e; rw [e] at h; exact absurd h (by decide)
    simp [spec_l22Const.f, k2, hn, impl_textValue.f, rdOf, el]
  by_cases k3 : n.kind = 3
  · simp [spec_l22Const.f, k3, impl_numberValue.f, impl_boolValue.f, spec_l17Number.f, spec_l17Bool.f, spec_l22Const.j0]
  by_cases k4 : n.kind = 4
  · simp [spec_l22Const.f, k4, impl_numberValue.f, impl_boolValue.f, spec_l17Number.f, spec_l17Bool.f, spec_l22Const.j0]
  by_cases k5 : n.kind = 5
  · simp [spec_l22Const.f, k5, impl_numberValue.f, impl_boolValue.f, spec_l17Number.f, spec_l17Bool.f, spec_l22Const.j0]
  simp [spec_l22Const.f, k1, k2, k3, k4, k5, spec_l22Const.j0]
set_option maxHeartbeats 8000000 in
set_option maxRecDepth 100000 in
theorem cConstS (n : Node) (cs : List Value) (w : World) (hk : kNodeI.K w n cs) (h2 : n.kind = 2 → 0 < n.names.length) :
    Calls Try.prog 115 #[.agg ⟨cs⟩] w fun e w' => e = .returned (.tuple #[valV (constV n), .bool (constV n).2.2.2.2]) ∧ Below w.heap.size w w' := by
  obtain ⟨A4, c4, A5, c5, rfl, h4, g4, h5, g5⟩ := kNodeI_open hk
  exact spec_l22Const.calls 20 _ _ _ _ _ _ _ _ _ _ _ _ _ _ _ _ _ w g4 h4 g5 h5 (cConstS_f n h2)
set_option maxHeartbeats 8000000 in
set_option maxRecDepth 100000 in
theorem cSpecConstOf (A : Option Addr) (c : Nat) (t : List Node) (x : Int) (w : World) (hT : kNodeI.C w A t.length t) (hnum : ∀ n ∈ t, 0 ≤ n.num ∧ n.num < 18446744073709551616) (hlen : t.length ≤ 1048576) :
    Calls Try.prog 59 #[.slice A t.length c, .int .i64 x] w fun e w' => e = .returned (.tuple #[valV (constB t x), .bool (constB t x).2.2.2.2]) ∧ Below w.heap.size w w' := by
  have HT := Aside0.mk hT; have HNUM := Aside0.mk hnum
  clear hT hnum
  have hu := Try.underlying75
  have M0 := Aside0.mk ((Mem.start w).allocAt rfl #[.int .i64 0, .int .u64 0, .string (⟨#[]⟩ : ByteArray), .int .i64 0] 75)
  by_cases htb : treeB t = true
  rotate_left
  · have hf : treeB t = false := by simpa using htb
    have HC := Aside0.mk (show constB t x = noneV by unfold constB; rw [if_neg htb])
    have HF := Aside0.mk hf; clear hf htb
    go_enter Try.func59, Try.ntmps59
    go_wp2_with fail
    refine (cSpecTreeOk A c t _ (Kd.C_below HT.out M0.out.below) HNUM.out hlen).mono ?_; rintro e w1 ⟨rfl, hb⟩
    have M1 := Aside0.mk (M0.out.step hb); clear hb M0
    rw [HF.out]
    have zr := M1.out.box (.head _); have fr := M1.out.free (.head _)
    go_wp2
    have Z0 := Aside0.mk (Mem.set (A := []) M1.out 0 (.int .i64 0) (cs' := #[.int .i64 0, .int .u64 0, .string (⟨#[]⟩ : ByteArray), .int .i64 0]) rfl); clear M1
    have Z1 := Aside0.mk (Mem.set (A := []) Z0.out 1 (.int .u64 0) (cs' := #[.int .i64 0, .int .u64 0, .string (⟨#[]⟩ : ByteArray), .int .i64 0]) rfl); clear Z0
    have Z2 := Aside0.mk (Mem.set (A := []) Z1.out 2 (.string (⟨#[]⟩ : ByteArray)) (cs' := #[.int .i64 0, .int .u64 0, .string (⟨#[]⟩ : ByteArray), .int .i64 0]) rfl); clear Z1
    have Z3 := Aside0.mk (Mem.set (A := []) Z2.out 3 (.int .i64 0) (cs' := #[.int .i64 0, .int .u64 0, .string (⟨#[]⟩ : ByteArray), .int .i64 0]) rfl); clear Z2
    refine bodyPost_ret (results_ct rfl _ _ w.heap.size 75 #[.int .i64 0, .int .u64 0, .string (⟨#[]⟩ : ByteArray), .int .i64 0] (0, 0) _ rfl (Z3.out.blk (.head _)) Try.underlying75 rfl (by kernel_rfl)) rfl ?_
    exact ⟨by rw [HC.out]; rfl, Z3.out.below⟩
  rcases Bool.eq_false_or_eq_true (inB x 0 ((t.length : Int) - 1)) with hin | hin
  rotate_left
  · have HC := Aside0.mk (show constB t x = noneV by unfold constB; rw [if_pos htb, hin]; rfl)
    have HF := Aside0.mk htb; have HIN := Aside0.mk hin; clear htb hin
    go_enter Try.func59, Try.ntmps59
    go_wp2_with fail
    refine (cSpecTreeOk A c t _ (Kd.C_below HT.out M0.out.below) HNUM.out hlen).mono ?_; rintro e w1 ⟨rfl, hb⟩
    have M1 := Aside0.mk (M0.out.step hb); clear hb M0
    rw [HF.out]
    go_wp2_with fail
    refine (cIn _ _ _ _).mono ?_; rintro e w2 ⟨rfl, ⟨⟨n2, rfl⟩⟩⟩; rw [HIN.out]
    have M2 := Aside0.mk (M1.out.draw n2); clear M1
    have zr := M2.out.box (.head _); have fr := M2.out.free (.head _)
    go_wp2
    have Z0 := Aside0.mk (Mem.set (A := []) M2.out 0 (.int .i64 0) (cs' := #[.int .i64 0, .int .u64 0, .string (⟨#[]⟩ : ByteArray), .int .i64 0]) rfl); clear M2
    have Z1 := Aside0.mk (Mem.set (A := []) Z0.out 1 (.int .u64 0) (cs' := #[.int .i64 0, .int .u64 0, .string (⟨#[]⟩ : ByteArray), .int .i64 0]) rfl); clear Z0
    have Z2 := Aside0.mk (Mem.set (A := []) Z1.out 2 (.string (⟨#[]⟩ : ByteArray)) (cs' := #[.int .i64 0, .int .u64 0, .string (⟨#[]⟩ : ByteArray), .int .i64 0]) rfl); clear Z1
    have Z3 := Aside0.mk (Mem.set (A := []) Z2.out 3 (.int .i64 0) (cs' := #[.int .i64 0, .int .u64 0, .string (⟨#[]⟩ : ByteArray), .int .i64 0]) rfl); clear Z2
    refine bodyPost_ret (results_ct rfl _ _ w.heap.size 75 #[.int .i64 0, .int .u64 0, .string (⟨#[]⟩ : ByteArray), .int .i64 0] (0, 0) _ rfl (Z3.out.blk (.head _)) Try.underlying75 rfl (by kernel_rfl)) rfl ?_
    exact ⟨by rw [HC.out]; rfl, Z3.out.below⟩
  obtain ⟨j, rfl⟩ : ∃ j : Nat, x = j := ⟨x.toNat, by have := of_decide_eq_true hin; omega⟩
  have hj : j < t.length := by have := of_decide_eq_true hin; omega
  have HC := Aside0.mk (show constB t (j : Int) = constV (el zNode t j) by unfold constB; rw [if_pos htb, hin, Int.toNat_natCast]; rfl)
  have H2 := Aside0.mk (fun (hk : (el zNode t j).kind = 2) => node_names (tree_node htb hj) hk)
  have HF := Aside0.mk htb; have HIN := Aside0.mk hin; clear htb hin
  have i1 : (0 : Int) ≤ (j : Int) := by omega
  have i2 : (j : Int) < (t.length : Int) := by omega
  go_enter Try.func59, Try.ntmps59
  go_wp2_with fail
  refine (cSpecTreeOk A c t _ (Kd.C_below HT.out M0.out.below) HNUM.out hlen).mono ?_; rintro e w1 ⟨rfl, hb⟩
  have M1 := Aside0.mk (M0.out.step hb); clear hb M0
  rw [HF.out]
  go_wp2_with fail
  refine (cIn _ _ _ _).mono ?_; rintro e w2 ⟨rfl, ⟨⟨n2, rfl⟩⟩⟩; rw [HIN.out]
  have M2 := Aside0.mk (M1.out.draw n2); clear M1
  obtain ⟨pa, pA4, pc4, pA5, pc5, hpa, pK, px0, px1, px2, px3, px4, px5, px6, px7⟩ := NodeI_at (Kd.C_below HT.out M2.out.below) j hj
  cases hpa
  have hun := Try.underlying142
  have PK := Aside0.mk pK; clear pK
  go_wp2_with fail
  clear px0 px1 px2 px3 px4 px5 px6 px7
  refine (cConstS (el zNode t j) _ _ PK.out H2.out).mono ?_; rintro e w3 ⟨rfl, hb⟩
  have M3 := Aside0.mk (M2.out.step hb); clear hb M2 PK
  obtain ⟨cv, hcv⟩ : ∃ cv, cv = constV (el zNode t j) := ⟨_, rfl⟩
  rw [← hcv]; have HCV := Aside0.mk hcv; clear hcv
  obtain ⟨k, m, s, r, b⟩ := cv
  unfold valV; dsimp only
  have zr := M3.out.box (.head _); have fr := M3.out.free (.head _)
  go_wp2
  have Z0 := Aside0.mk (Mem.set (A := []) M3.out 0 (.int .i64 k) (cs' := #[.int .i64 k, .int .u64 0, .string (⟨#[]⟩ : ByteArray), .int .i64 0]) rfl); clear M3
  have Z1 := Aside0.mk (Mem.set (A := []) Z0.out 1 (.int .u64 m) (cs' := #[.int .i64 k, .int .u64 m, .string (⟨#[]⟩ : ByteArray), .int .i64 0]) rfl); clear Z0
  have Z2 := Aside0.mk (Mem.set (A := []) Z1.out 2 (.string s) (cs' := #[.int .i64 k, .int .u64 m, .string s, .int .i64 0]) rfl); clear Z1
  have Z3 := Aside0.mk (Mem.set (A := []) Z2.out 3 (.int .i64 r) (cs' := #[.int .i64 k, .int .u64 m, .string s, .int .i64 r]) rfl); clear Z2
  refine bodyPost_ret (results_ct rfl _ _ w.heap.size 75 #[.int .i64 k, .int .u64 m, .string s, .int .i64 r] (0, 0) _ rfl (Z3.out.blk (.head _)) Try.underlying75 rfl (by kernel_rfl)) rfl ?_
  exact ⟨by rw [HC.out, ← HCV.out]; rfl, Z3.out.below⟩
set_option maxHeartbeats 8000000 in
set_option maxRecDepth 100000 in
theorem cImplConstOf (A : Option Addr) (c : Nat) (t : List Node) (x : Int) (w : World) (hT : kNodeI.C w A t.length t) (hnum : ∀ n ∈ t, 0 ≤ n.num ∧ n.num < 18446744073709551616) (hlen : t.length ≤ 1048576) (hcap : t.length ≤ c) (hll : ∀ n ∈ t, n.list.length ≤ 1048576) :
    Calls Try.prog 60 #[.slice A t.length c, .int .i64 x] w fun e w' => e = .returned (.tuple #[valV (constB t x), .bool (constB t x).2.2.2.2]) ∧ Below w.heap.size w w' := by
  have HT := Aside0.mk hT; have HNUM := Aside0.mk hnum; have HLL := Aside0.mk hll
  clear hT hnum hll
  have hu := Try.underlying75
  have M0 := Aside0.mk ((Mem.start w).allocAt rfl #[.int .i64 0, .int .u64 0, .string (⟨#[]⟩ : ByteArray), .int .i64 0] 75)
  by_cases htb : treeB t = true
  rotate_left
  · have hf : treeB t = false := by simpa using htb
    have HC := Aside0.mk (show constB t x = noneV by unfold constB; rw [if_neg htb])
    have HF := Aside0.mk hf; clear hf htb
    go_enter Try.func60, Try.ntmps60
    go_wp2_with fail
    refine (cImplTreeOk A c t _ (Kd.C_below HT.out M0.out.below) HNUM.out hlen hcap HLL.out).mono ?_; rintro e w1 ⟨rfl, hb⟩
    have M1 := Aside0.mk (M0.out.step hb); clear hb M0
    rw [HF.out]
    have zr := M1.out.box (.head _); have fr := M1.out.free (.head _)
    go_wp2
    have Z0 := Aside0.mk (Mem.set (A := []) M1.out 0 (.int .i64 0) (cs' := #[.int .i64 0, .int .u64 0, .string (⟨#[]⟩ : ByteArray), .int .i64 0]) rfl); clear M1
    have Z1 := Aside0.mk (Mem.set (A := []) Z0.out 1 (.int .u64 0) (cs' := #[.int .i64 0, .int .u64 0, .string (⟨#[]⟩ : ByteArray), .int .i64 0]) rfl); clear Z0
    have Z2 := Aside0.mk (Mem.set (A := []) Z1.out 2 (.string (⟨#[]⟩ : ByteArray)) (cs' := #[.int .i64 0, .int .u64 0, .string (⟨#[]⟩ : ByteArray), .int .i64 0]) rfl); clear Z1
    have Z3 := Aside0.mk (Mem.set (A := []) Z2.out 3 (.int .i64 0) (cs' := #[.int .i64 0, .int .u64 0, .string (⟨#[]⟩ : ByteArray), .int .i64 0]) rfl); clear Z2
    refine bodyPost_ret (results_ct rfl _ _ w.heap.size 75 #[.int .i64 0, .int .u64 0, .string (⟨#[]⟩ : ByteArray), .int .i64 0] (0, 0) _ rfl (Z3.out.blk (.head _)) Try.underlying75 rfl (by kernel_rfl)) rfl ?_
    exact ⟨by rw [HC.out]; rfl, Z3.out.below⟩
  rcases Bool.eq_false_or_eq_true (inB x 0 ((t.length : Int) - 1)) with hin | hin
  rotate_left
  · have HC := Aside0.mk (show constB t x = noneV by unfold constB; rw [if_pos htb, hin]; rfl)
    have HF := Aside0.mk htb; have HIN := Aside0.mk hin; clear htb hin
    go_enter Try.func60, Try.ntmps60
    go_wp2_with fail
    refine (cImplTreeOk A c t _ (Kd.C_below HT.out M0.out.below) HNUM.out hlen hcap HLL.out).mono ?_; rintro e w1 ⟨rfl, hb⟩
    have M1 := Aside0.mk (M0.out.step hb); clear hb M0
    rw [HF.out]
    go_wp2_with fail
    refine (cWithin _ _ _ _).mono ?_; rintro e w2 ⟨rfl, ⟨⟨n2, rfl⟩⟩⟩; rw [HIN.out]
    have M2 := Aside0.mk (M1.out.draw n2); clear M1
    have zr := M2.out.box (.head _); have fr := M2.out.free (.head _)
    go_wp2
    have Z0 := Aside0.mk (Mem.set (A := []) M2.out 0 (.int .i64 0) (cs' := #[.int .i64 0, .int .u64 0, .string (⟨#[]⟩ : ByteArray), .int .i64 0]) rfl); clear M2
    have Z1 := Aside0.mk (Mem.set (A := []) Z0.out 1 (.int .u64 0) (cs' := #[.int .i64 0, .int .u64 0, .string (⟨#[]⟩ : ByteArray), .int .i64 0]) rfl); clear Z0
    have Z2 := Aside0.mk (Mem.set (A := []) Z1.out 2 (.string (⟨#[]⟩ : ByteArray)) (cs' := #[.int .i64 0, .int .u64 0, .string (⟨#[]⟩ : ByteArray), .int .i64 0]) rfl); clear Z1
    have Z3 := Aside0.mk (Mem.set (A := []) Z2.out 3 (.int .i64 0) (cs' := #[.int .i64 0, .int .u64 0, .string (⟨#[]⟩ : ByteArray), .int .i64 0]) rfl); clear Z2
    refine bodyPost_ret (results_ct rfl _ _ w.heap.size 75 #[.int .i64 0, .int .u64 0, .string (⟨#[]⟩ : ByteArray), .int .i64 0] (0, 0) _ rfl (Z3.out.blk (.head _)) Try.underlying75 rfl (by kernel_rfl)) rfl ?_
    exact ⟨by rw [HC.out]; rfl, Z3.out.below⟩
  obtain ⟨j, rfl⟩ : ∃ j : Nat, x = j := ⟨x.toNat, by have := of_decide_eq_true hin; omega⟩
  have hj : j < t.length := by have := of_decide_eq_true hin; omega
  have HC := Aside0.mk (show constB t (j : Int) = constV (el zNode t j) by unfold constB; rw [if_pos htb, hin, Int.toNat_natCast]; rfl)
  have H2 := Aside0.mk (fun (hk : (el zNode t j).kind = 2) => node_names (tree_node htb hj) hk)
  have HF := Aside0.mk htb; have HIN := Aside0.mk hin; clear htb hin
  have i1 : (0 : Int) ≤ (j : Int) := by omega
  have i2 : (j : Int) < (t.length : Int) := by omega
  go_enter Try.func60, Try.ntmps60
  go_wp2_with fail
  refine (cImplTreeOk A c t _ (Kd.C_below HT.out M0.out.below) HNUM.out hlen hcap HLL.out).mono ?_; rintro e w1 ⟨rfl, hb⟩
  have M1 := Aside0.mk (M0.out.step hb); clear hb M0
  rw [HF.out]
  go_wp2_with fail
  refine (cWithin _ _ _ _).mono ?_; rintro e w2 ⟨rfl, ⟨⟨n2, rfl⟩⟩⟩; rw [HIN.out]
  have M2 := Aside0.mk (M1.out.draw n2); clear M1
  obtain ⟨pa, pA4, pc4, pA5, pc5, hpa, pK, px0, px1, px2, px3, px4, px5, px6, px7⟩ := NodeI_at (Kd.C_below HT.out M2.out.below) j hj
  cases hpa
  have hun := Try.underlying142
  have PK := Aside0.mk pK; clear pK
  go_wp2_with fail
  clear px0 px1 px2 px3 px4 px5 px6 px7
  refine (cConstI (el zNode t j) _ _ PK.out H2.out).mono ?_; rintro e w3 ⟨rfl, hb⟩
  have M3 := Aside0.mk (M2.out.step hb); clear hb M2 PK
  obtain ⟨cv, hcv⟩ : ∃ cv, cv = constV (el zNode t j) := ⟨_, rfl⟩
  rw [← hcv]; have HCV := Aside0.mk hcv; clear hcv
  obtain ⟨k, m, s, r, b⟩ := cv
  unfold valV; dsimp only
  have zr := M3.out.box (.head _); have fr := M3.out.free (.head _)
  go_wp2
  have Z0 := Aside0.mk (Mem.set (A := []) M3.out 0 (.int .i64 k) (cs' := #[.int .i64 k, .int .u64 0, .string (⟨#[]⟩ : ByteArray), .int .i64 0]) rfl); clear M3
  have Z1 := Aside0.mk (Mem.set (A := []) Z0.out 1 (.int .u64 m) (cs' := #[.int .i64 k, .int .u64 m, .string (⟨#[]⟩ : ByteArray), .int .i64 0]) rfl); clear Z0
  have Z2 := Aside0.mk (Mem.set (A := []) Z1.out 2 (.string s) (cs' := #[.int .i64 k, .int .u64 m, .string s, .int .i64 0]) rfl); clear Z1
  have Z3 := Aside0.mk (Mem.set (A := []) Z2.out 3 (.int .i64 r) (cs' := #[.int .i64 k, .int .u64 m, .string s, .int .i64 r]) rfl); clear Z2
  refine bodyPost_ret (results_ct rfl _ _ w.heap.size 75 #[.int .i64 k, .int .u64 m, .string s, .int .i64 r] (0, 0) _ rfl (Z3.out.blk (.head _)) Try.underlying75 rfl (by kernel_rfl)) rfl ?_
  exact ⟨by rw [HC.out, ← HCV.out]; rfl, Z3.out.below⟩
theorem cEqValue (v : Int × Int × ByteArray × Int × Bool) (w : World) : Calls Try.prog 61 #[valV v, valV v] w fun e w' => e = .returned (.bool true) ∧ Below w.heap.size w w' :=
  laws_eqValue.calls v.1 v.2.1 v.2.2.1 v.2.2.2.1 v.1 v.2.1 v.2.2.1 v.2.2.2.1 true w (by simp [laws_eqValue.f])
end Go.Proofs.Ytlhfhfamifmijaa.LeafN
end
section
namespace Go.Proofs.Ytlhfhfamifmijaa.WalkFnExactConstOf
open Go.RowKit Go.Proofs.YtlhfhfamifmijaaW.PrintWords Go.Proofs.YtlhfhfamifmijaaW.PrintMore Go.Proofs.Ytlhfhfamifmijaa.Law Go.Proofs.Ytlhfhfamifmijaa.Num Go.Proofs.Ytlhfhfamifmijaa Go.Proofs.Ytlhfhfamifmijaa.LeafN
set_option linter.unusedVariables false
set_option linter.unusedSimpArgs false
set_option autoImplicit false
set_option maxHeartbeats 8000000 in
set_option maxRecDepth 100000 in
theorem w1 (A : Option Addr) (c : Nat) (l : List Node) (x : Int) (w : World) (hr : kNodeL.C w A l.length l) (hgood : ∀ y ∈ l, GoodNode y) (e1 : sub 1048576 (sizeNodeS l) = -1) :
    Calls Try.prog 14 #[.slice A l.length c, .int .i64 x] w fun e w' => e = .returned (.bool true) ∧ Below w.heap.size w w' := by
  have HR := Aside0.mk hr; clear hr
  go_enter Try.func14, Try.ntmps14
  go_wp2_with fail
  have C := szNodeS A c l 1048576 _ HR.out hgood (by omega) (by omega)
  rw [e1] at C
  refine C.mono ?_; clear C
  rintro e w1 ⟨rfl, hb⟩
  have M1 := Aside0.mk ((Mem.start w).step hb); clear hb
  go_wp2
  go_ret
  exact ⟨rfl, M1.out.below⟩
set_option maxHeartbeats 8000000 in
set_option maxRecDepth 100000 in
theorem w2 (A : Option Addr) (c : Nat) (l : List Node) (x : Int) (w : World) (hr : kNodeL.C w A l.length l) (hgood : ∀ y ∈ l, GoodNode y) (s1 : Int) (e1 : sub 1048576 (sizeNodeS l) = s1) (n1 : 0 ≤ s1) (hlen : l.length ≤ 1048576) (hll : ∀ y ∈ l, LenNode y) (hnum : ∀ n ∈ l, 0 ≤ n.num ∧ n.num < 18446744073709551616) :
    Calls Try.prog 14 #[.slice A l.length c, .int .i64 x] w fun e w' => e = .returned (.bool true) ∧ Below w.heap.size w w' := by
  have HR := Aside0.mk hr; clear hr
  go_enter Try.func14, Try.ntmps14
  go_wp2_with fail
  have C := szNodeS A c l 1048576 _ HR.out hgood (by omega) (by omega)
  rw [e1] at C
  refine C.mono ?_; clear C
  rintro e w1 ⟨rfl, hb⟩
  have M1 := Aside0.mk ((Mem.start w).step hb); clear hb
  have m1 : decide (s1 < 0) = false := by simp; omega
  have HLL := Aside0.mk hll; have HNUM := Aside0.mk hnum; have HG := Aside0.mk hgood; clear hll hnum hgood
  obtain ⟨cv, hcv⟩ : ∃ cv, constB l x = cv := ⟨_, rfl⟩
  have HCV := Aside0.mk hcv; clear hcv
  obtain ⟨k, m, s, r, b⟩ := cv
  have hu := Try.underlying75
  go_wp2_with fail
  refine (toNodeS A c l _ (Kd.C_below HR.out M1.out.below) hlen HLL.out).mono ?_; rintro e w2 ⟨v2, rfl, hr, hb⟩
  obtain ⟨A2, c2, rfl, hc, hC⟩ := Kd.R_reads hr; have CC2 := Aside0.mk hC; have CP2 := Aside0.mk hc; clear hC hc
  have M2 := Aside0.mk (M1.out.pushR hb hr); clear hr hb
  go_wp2_with fail
  refine (cSpecConstOf A2 c2 l x _ CC2.out HNUM.out hlen).mono ?_; rintro e w3 ⟨rfl, hb⟩
  rw [HCV.out]; unfold valV; dsimp only
  have M3 := Aside0.mk ((M2.out.step hb).allocAt rfl #[.int .i64 k, .int .u64 m, .string s, .int .i64 r] 75); clear hb M2
  go_wp2_with fail
  refine (toNodeS A c l _ (Kd.C_below HR.out M3.out.below) hlen HLL.out).mono ?_; rintro e w4 ⟨v4, rfl, hr, hb⟩
  obtain ⟨A4, c4, rfl, hc, hC⟩ := Kd.R_reads hr; have CC4 := Aside0.mk hC; have CP4 := Aside0.mk hc; clear hC hc
  have M4 := Aside0.mk (M3.out.pushR hb hr); clear hr hb M3
  go_wp2_with fail
  refine (cImplConstOf A4 c4 l x _ CC4.out HNUM.out hlen CP4.out (fun n hn => (HLL.out n hn).1)).mono ?_; rintro e w5 ⟨rfl, hb⟩
  rw [HCV.out]; unfold valV; dsimp only
  have CC5 := Aside0.mk (Kd.C_below CC4.out hb)
  have M5 := Aside0.mk ((M4.out.step hb).allocAt rfl #[.int .i64 k, .int .u64 m, .string s, .int .i64 r] 75); clear hb M4
  have CC5b := Aside0.mk (Kd.C_below CC5.out (below_alloc (Below.refl _ _) (.cells #[.int .i64 k, .int .u64 m, .string s, .int .i64 r] 75)))
  have zw := M5.out.box (.tail _ (.tail _ (.head _))); have zg := M5.out.box (.head _)
  have hrr : (b != b) = false := by simp
  go_wp2_with fail
  refine (cEqValue (k, m, s, r, b) _).mono ?_; rintro e w6 ⟨rfl, hb⟩
  have M6 := Aside0.mk (M5.out.step hb); have CC6 := Aside0.mk (Kd.C_below CC5b.out hb); clear hb M5 zw zg
  have zw := M6.out.box (.tail _ (.tail _ (.head _))); have zg := M6.out.box (.head _)
  go_wp2_with fail
  clear zw zg
  refine (toNodeS A c l _ (Kd.C_below HR.out M6.out.below) hlen HLL.out).mono ?_; rintro e w7 ⟨v7, rfl, hr, hb⟩
  obtain ⟨A7, c7, rfl, hc, hC⟩ := Kd.R_reads hr; have CC7 := Aside0.mk hC; clear hC hc
  have M7 := Aside0.mk (M6.out.pushR hb hr); have CC8 := Aside0.mk (Kd.C_below CC6.out hb); clear hr hb M6
  go_wp2_with fail
  have C := eqNodeS A4 A7 c4 c7 l l _ CC8.out CC7.out; rw [decide_eq_true rfl] at C; refine C.mono ?_; clear C; rintro e w8 ⟨rfl, hb⟩
  have M8 := Aside0.mk (M7.out.step hb); clear hb
  go_wp2
  go_ret
  exact ⟨rfl, M8.out.below⟩
end Go.Proofs.Ytlhfhfamifmijaa.WalkFnExactConstOf
end
section
namespace Go.Proofs.Ytlhfhfamifmijaa.LawFnExactConstOf
open Go.RowKit Go.Proofs.YtlhfhfamifmijaaW.PrintWords Go.Proofs.YtlhfhfamifmijaaW.PrintMore Go.Proofs.Ytlhfhfamifmijaa.Law
set_option linter.unusedVariables false
theorem le_sum {l : List Node} {y : Node} (h : y ∈ l) : sizeNode y ≤ (l.map sizeNode).sum := by
  induction l with
  | nil => cases h
  | cons a l ih =>
    rw [List.map_cons, List.sum_cons]
    rcases List.mem_cons.1 h with rfl | h
    · omega
    · have := ih h
      omega
theorem len_ok {l : List Node} (h : (sizeNodeS l : Int) ≤ 1048576) : l.length ≤ 1048576 ∧ ∀ y ∈ l, LenNode y := by
  have e : sizeNodeS l = l.length + (l.map sizeNode).sum := rfl
  refine ⟨by omega, fun y hy => ?_⟩
  have h1 := le_sum hy
  have e2 : sizeNode y = y.list.length + (y.names.length + (y.names.map ByteArray.size).sum) := rfl
  exact ⟨by omega, by omega⟩
theorem law (A : Option Addr) (c : Nat) (l : List Node) (x : Int) (w : World)
    (hr : kNodeL.C w A l.length l) (hc : l.length ≤ c) (g : l.length ≤ maxLen ∧ ∀ x ∈ l, (Lit.int .i64 x.kind).wf = true ∧ (Lit.int .i64 x.a).wf = true ∧ (Lit.int .i64 x.b).wf = true ∧ (Lit.int .i64 x.c).wf = true ∧ (x.list.length ≤ maxLen ∧ ∀ y ∈ x.list, (Lit.int .i64 y).wf = true) ∧ (x.names.length ≤ maxLen ∧ ∀ s ∈ x.names, s.size ≤ maxLen) ∧ (Lit.int .u64 x.num).wf = true ∧ (Lit.int .i64 x.at_).wf = true) (gx : (Lit.int .i64 x).wf = true) :
    Calls Try.prog 14 #[.slice A l.length c, .int .i64 x] w fun e w' => e = .returned (.bool true) ∧ Below w.heap.size w w' := by
  have gg : ∀ y ∈ l, GoodNode y := fun y hy => (g.2 y hy).2.2.2.2.2.1.2
  by_cases n1 : (1048576 : Int) < (sizeNodeS l : Int)
  · exact WalkFnExactConstOf.w1 A c l x w hr gg (by unfold sub; rw [if_pos n1])
  · have e1 : sub 1048576 (sizeNodeS l) = 1048576 - (sizeNodeS l : Int) := by unfold sub; rw [if_neg n1]
    obtain ⟨h1, h2⟩ := len_ok (l := l) (by omega)
    refine WalkFnExactConstOf.w2 A c l x w hr gg _ e1 (by omega) h1 h2 (fun n hn => Num.wf_u64 (g.2 n hn).2.2.2.2.2.2.1)
end Go.Proofs.Ytlhfhfamifmijaa.LawFnExactConstOf
end
section
namespace Go.Proofs.Ytlhfhfamifmijaa.Open
open Go.Proofs.YtlhfhfamifmijaaW.PrintWords Go.ChangeShapes Go.WideShapes
section
variable {H : Type} {enc : TypeId × Value → H} {P : Program} {w : World} {base : Nat} {spare : Nat → Bool} {held : Bool}
/-- What reads as a datum at type t reads by the kind d as a value that is G. -/
def Opens {α : Type} (enc : TypeId × Value → H) (P : Program) (w : World) (base : Nat) (spare : Nat → Bool) (held : Bool) (t : TypeId) (d : Kd α) (G : α → Prop) : Prop :=
  ∀ (fuel : Nat) (cs : List Value) (x : DataW H × List MemPlace), DataW.trod enc P w base spare held fuel t cs = some x → ∃ a, d.K w a cs ∧ G a
theorem opens_int {t : TypeId} {k : IntKind} (ht : P.underlying t = some (.int k)) : Opens enc P w base spare held t (Kd.int k) (fun n => (Lit.int k n).wf = true) := by
  intro fuel cs x h
  obtain ⟨n, rfl, _, hw⟩ := DataW.trod_int ht h
  exact ⟨n, rfl, hw⟩
theorem opens_string {t : TypeId} (ht : P.underlying t = some .string) : Opens enc P w base spare held t Kd.string (fun s => s.size ≤ maxLen) := by
  intro fuel cs x h
  obtain ⟨s, rfl, _, hw⟩ := DataW.trod_string ht h
  exact ⟨s, rfl, hw⟩
theorem list_choose {α : Type} {Q : Nat → α → Prop} : ∀ (n : Nat), (∀ i, i < n → ∃ a, Q i a) → ∃ l : List α, l.length = n ∧ ∀ i a, l[i]? = some a → Q i a
  | 0, _ => ⟨[], rfl, fun i a h => by simp at h⟩
  | n + 1, h => by
    obtain ⟨l, hl, hq⟩ := list_choose n (fun i hi => h i (by omega))
    obtain ⟨a, ha⟩ := h n (by omega)
    refine ⟨l ++ [a], by simp [hl], fun i b hb => ?_⟩
    rw [List.getElem?_append] at hb
    split at hb
    · exact hq i b hb
    · rename_i hi
      have hi0 : i - l.length = 0 := by
        rcases Nat.eq_zero_or_pos (i - l.length) with h0 | h0
        · exact h0
        · rw [List.getElem?_eq_none (by simp; omega)] at hb
          cases hb
      rw [hi0] at hb
      simp at hb
      subst hb
      have : i = n := by omega
      rw [this]
      exact ha
theorem opens_slice {α : Type} {t e e' : TypeId} {d : Kd α} {G : α → Prop} (ht : P.underlying t = some (.slice e)) (hc : P.cellsOf e = d.sz) (ho : Opens enc P w base spare held e d G) :
    Opens enc P w base spare held t (Kd.slice e' d) (fun xs => xs.length ≤ maxLen ∧ ∀ x ∈ xs, G x) := by
  intro fuel cs x h
  rcases DataW.trod_slice ht h with ⟨rfl, _⟩ | ⟨a, len, cap, elems, rest, n, _, rfl, _, _, hl, hm, hlen, hel, _⟩
  · exact ⟨[], ⟨none, 0, rfl, Nat.le_refl _, rfl, by simp, fun h => by simp at h⟩, by simp, fun x hx => by simp at hx⟩
  · have each : ∀ i, i < len → ∃ z : α, (∃ c, c.length = d.sz ∧ d.K w z c ∧ ∀ j u, c[j]? = some u → w.cell? (a.add (i * d.sz + j)) = some u) ∧ G z := by
      intro i hi
      have he := hel i hi
      rw [List.getElem?_eq_getElem (by omega), Option.bind_eq_some_iff] at he
      obtain ⟨c, hcs, hy⟩ := he
      obtain ⟨z, hk, hg⟩ := ho _ _ _ hy
      refine ⟨z, ⟨c, d.K_len hk, hk, fun j u hu => ?_⟩, hg⟩
      obtain ⟨_, hcl, hcell⟩ := World.cells?_some hcs
      have hj : j < c.length := (List.getElem?_eq_some_iff.1 hu).1
      have := hcell j (by omega)
      rw [hc, Addr.add_add] at this
      rw [this, hu]
    obtain ⟨l, hll, hq⟩ := list_choose len each
    refine ⟨l, ⟨some a, cap, by rw [hll], by omega, rfl, by unfold maxLen at hm; omega, fun _ => ⟨a, rfl, fun j p hp => ?_⟩⟩, by omega, fun z hz => ?_⟩
    · obtain ⟨⟨c, h1, h2, h3⟩, _⟩ := hq j p hp
      exact ⟨c, h1, h2, h3⟩
    · obtain ⟨i, hi⟩ := List.getElem?_of_mem hz
      exact (hq i z hi).2
/-- The fields from a place on, read in line by the kind d. -/
def Fields {α : Type} (enc : TypeId × Value → H) (P : Program) (w : World) (base : Nat) (spare : Nat → Bool) (held : Bool) (fs : List Field) (off : Nat) (d : Kd α) (G : α → Prop) : Prop :=
  ∀ (n : Nat) (cs : List Value), cs.length = off + d.sz → (∀ f ∈ fs, ∃ x, DataW.trod enc P w base spare held n f.type ((cs.drop f.offset).take (P.cellsOf f.type)) = some x) → ∃ a, d.K w a (cs.drop off) ∧ G a
theorem fields_one {α : Type} {f : Field} {off : Nat} {d : Kd α} {G : α → Prop} (hf : f.offset = off) (hc : P.cellsOf f.type = d.sz) (ho : Opens enc P w base spare held f.type d G) : Fields enc P w base spare held [f] off d G := by
  intro n cs hl h
  obtain ⟨x, hx⟩ := h f (by simp)
  obtain ⟨a, hk, hg⟩ := ho _ _ _ hx
  refine ⟨a, ?_, hg⟩
  rw [hf, hc, List.take_of_length_le (by simp [hl])] at hk
  exact hk
theorem fields_cons {α β : Type} {f : Field} {fs : List Field} {off : Nat} {d : Kd α} {d' : Kd β} {G : α → Prop} {G' : β → Prop} (hf : f.offset = off) (hc : P.cellsOf f.type = d.sz) (ho : Opens enc P w base spare held f.type d G)
    (hr : Fields enc P w base spare held fs (off + d.sz) d' G') : Fields enc P w base spare held (f :: fs) off (Kd.pair d d') (fun x => G x.1 ∧ G' x.2) := by
  intro n cs hl h
  obtain ⟨x, hx⟩ := h f (by simp)
  obtain ⟨a, hk, hg⟩ := ho _ _ _ hx
  rw [hf, hc] at hk
  have hl' : cs.length = off + d.sz + d'.sz := by rw [hl]; show off + (d.sz + d'.sz) = _; omega
  obtain ⟨b, hk', hg'⟩ := hr n cs hl' (fun g hg => h g (by simp [hg]))
  refine ⟨(a, b), ⟨_, _, ?_, hk, hk'⟩, hg, hg'⟩
  rw [← List.drop_drop, List.take_append_drop]
theorem opens_struct {α : Type} {t : TypeId} {fs : Array Field} {d : Kd α} {G : α → Prop} (ht : P.underlying t = some (.struct fs)) (hc : P.cellsOf t = d.sz) (hf : Fields enc P w base spare held fs.toList 0 d G) : Opens enc P w base spare held t d G := by
  intro fuel cs x h
  obtain ⟨xs, n, _, _, hl, hlen, hx⟩ := DataW.trod_struct ht h
  obtain ⟨a, hk, hg⟩ := hf n cs (by omega) (fun f hm => by
    obtain ⟨i, hi⟩ := List.getElem?_of_mem hm
    have hi' : i < fs.size := by have := (List.getElem?_eq_some_iff.1 hi).1; simpa using this
    have := hx i f (by rw [← hi, Array.getElem?_toList])
    rw [List.getElem?_eq_getElem (by omega)] at this
    exact ⟨_, this⟩)
  exact ⟨a, by simpa using hk, hg⟩
/-- A structure by its fields: where the kind's own value is the tuple. -/
theorem opens_iso {α β : Type} {t : TypeId} {d : Kd α} {G : α → Prop} (f : β → α) (g : α → β) (hfg : ∀ a, f (g a) = a) (h : Opens enc P w base spare held t d G) : Opens enc P w base spare held t (Kd.iso d f) (fun b => G (f b)) := by
  intro fuel cs x hx
  obtain ⟨a, hk, ha⟩ := h fuel cs x hx
  refine ⟨g a, ?_, by show G (f (g a)); rw [hfg]; exact ha⟩
  show d.K w (f (g a)) cs
  rw [hfg]
  exact hk
/-- An argument: its cells, by the kind. -/
theorem opens_arg {α : Type} {t : TypeId} {d : Kd α} {G : α → Prop} {v : Value} {dd : DataW H} {p : List MemPlace} (ho : Opens enc P w base spare held t d G) (h : DataW.Trod enc P w base spare held t v dd p) : ∃ a, d.K w a v.cells.toList ∧ G a := by
  obtain ⟨fuel, hf⟩ := h
  exact ho _ _ _ hf
end
end Go.Proofs.Ytlhfhfamifmijaa.Open
end
section
namespace Go.Proofs.Ytlhfhfamifmijaa.fnExactConstOf
open Go.ChangeShapes Go.WideShapes Go.ChangeAt Go.RowKit Go.Proofs.YtlhfhfamifmijaaW.PrintWords Go.Proofs.Ytlhfhfamifmijaa.Open
open Go.ChangeMaps (open_string shut_string)
set_option linter.unusedVariables false
set_option linter.unusedSimpArgs false
theorem own : ownKnob Try.prog.godebug = none := by kernel_rfl
theorem laidOut : laidOutB Try.prog = true := by kernel_rfl
def G3 (n : Int) : Prop := (Lit.int .i64 n).wf = true
theorem op3 {H : Type} {enc : TypeId × Value → H} {w : World} {base : Nat} {spare : Nat → Bool} {held : Bool} : Opens enc Try.prog w base spare held 3 (Kd.int .i64) G3 := opens_int Try.underlying3
def G26 (xs : List Int) : Prop := xs.length ≤ maxLen ∧ ∀ x ∈ xs, G3 x
theorem op26 {H : Type} {enc : TypeId × Value → H} {w : World} {base : Nat} {spare : Nat → Bool} {held : Bool} : Opens enc Try.prog w base spare held 26 (Kd.slice 3 (Kd.int .i64)) G26 := opens_slice Try.underlying26 (by kernel_rfl) op3
def G9 (s : ByteArray) : Prop := s.size ≤ maxLen
theorem op9 {H : Type} {enc : TypeId × Value → H} {w : World} {base : Nat} {spare : Nat → Bool} {held : Bool} : Opens enc Try.prog w base spare held 9 Kd.string G9 := opens_string Try.underlying9
def G139 (xs : List ByteArray) : Prop := xs.length ≤ maxLen ∧ ∀ x ∈ xs, G9 x
theorem op139 {H : Type} {enc : TypeId × Value → H} {w : World} {base : Nat} {spare : Nat → Bool} {held : Bool} : Opens enc Try.prog w base spare held 139 (Kd.slice 9 Kd.string) G139 := opens_slice Try.underlying139 (by kernel_rfl) op9
def G73 (n : Int) : Prop := (Lit.int .u64 n).wf = true
theorem op73 {H : Type} {enc : TypeId × Value → H} {w : World} {base : Nat} {spare : Nat → Bool} {held : Bool} : Opens enc Try.prog w base spare held 73 (Kd.int .u64) G73 := opens_int Try.underlying73
def Gt141 (x : Int × Int × Int × Int × (List Int) × (List ByteArray) × Int × Int) : Prop := G3 x.1 ∧ G3 x.2.1 ∧ G3 x.2.2.1 ∧ G3 x.2.2.2.1 ∧ G26 x.2.2.2.2.1 ∧ G139 x.2.2.2.2.2.1 ∧ G73 x.2.2.2.2.2.2.1 ∧ G3 x.2.2.2.2.2.2.2
theorem opt141 {H : Type} {enc : TypeId × Value → H} {w : World} {base : Nat} {spare : Nat → Bool} {held : Bool} : Opens enc Try.prog w base spare held 141 (Kd.pair (Kd.int .i64) (Kd.pair (Kd.int .i64) (Kd.pair (Kd.int .i64) (Kd.pair (Kd.int .i64) (Kd.pair (Kd.slice 3 (Kd.int .i64)) (Kd.pair (Kd.slice 9 Kd.string) (Kd.pair (Kd.int .u64) (Kd.int .i64)))))))) Gt141 := opens_struct Try.underlying141 (by kernel_rfl) (fields_cons rfl (by kernel_rfl) op3 (fields_cons rfl (by kernel_rfl) op3 (fields_cons rfl (by kernel_rfl) op3 (fields_cons rfl (by kernel_rfl) op3 (fields_cons rfl (by kernel_rfl) op26 (fields_cons rfl (by kernel_rfl) op139 (fields_cons rfl (by kernel_rfl) op73 (fields_one rfl (by kernel_rfl) op3))))))))
def G141 (x : Node) : Prop := Gt141 (x.kind, x.a, x.b, x.c, x.list, x.names, x.num, x.at_)
theorem op141 {H : Type} {enc : TypeId × Value → H} {w : World} {base : Nat} {spare : Nat → Bool} {held : Bool} : Opens enc Try.prog w base spare held 141 kNodeL G141 := opens_iso (fun x : Node => (x.kind, x.a, x.b, x.c, x.list, x.names, x.num, x.at_)) (fun t => ⟨t.1, t.2.1, t.2.2.1, t.2.2.2.1, t.2.2.2.2.1, t.2.2.2.2.2.1, t.2.2.2.2.2.2.1, t.2.2.2.2.2.2.2⟩) (fun _ => rfl) opt141
def G65 (xs : List Node) : Prop := xs.length ≤ maxLen ∧ ∀ x ∈ xs, G141 x
theorem op65 {H : Type} {enc : TypeId × Value → H} {w : World} {base : Nat} {spare : Nat → Bool} {held : Bool} : Opens enc Try.prog w base spare held 65 (Kd.slice 141 kNodeL) G65 := opens_slice Try.underlying65 (by kernel_rfl) op141
set_option maxRecDepth 100000 in
theorem lifted (os : Os) (started : os.Started) (H : Type) (enc : TypeId × Value → H) :
    ReturnsInHanded {} Try.checked os 14 .any (Rows.fnExactConstOfSpec.pre6 enc Try.prog Try.f14 Rows.fnExactConstOfRow.domain false) (Rows.fnExactConstOfSpec.post enc Try.prog Try.f14 false true false false) := by
  refine returnsInHanded_of_change_sized (C := Try.checked) own started (by kernel_rfl) Try.func14
    (ChangeSpec.witness6 (enc := enc) (C := Try.checked) false ⟨#[], #[.slice none 0 0, .int .i64 0], []⟩ 8 (by kernel_rfl) (by kernel_rfl) (by kernel_rfl) (by kernel_rfl)) ?_
  intro W base args ds gs before hval0 hW hcnd hsz0 _
  have hval : ∀ (j : Nat) t v, Try.f14.params[j]? = some t → args[j]? = some v → Value.okWide Try.prog W .any base t v := hval0
  have hW' := hW
  obtain ⟨p, q, hA0, hV, rfl, hfz, hnd⟩ := hW
  have hA : DataW.TrodAll enc Try.prog W 0 (fun _ => true) true Try.f14.params.toList args.toList ds p := hA0
  rw [Try.params14] at hA hval
  obtain ⟨v0, vs0, d0, ds0, p0, q0, hargs0, rfl, rfl, h0, r0⟩ := trodAll_cons hA
  obtain ⟨v1, vs1, d1, ds1, p1, q1, hargs1, rfl, rfl, h1, r1⟩ := trodAll_cons r0
  obtain ⟨rfl, rfl, rfl⟩ := trodAll_nil r1
  obtain rfl : args = #[v0, v1] := by cases args; simp_all
  obtain ⟨rfl, rfl⟩ := trodVars_none hV
  have k0 := h0
  have lt0 : ∀ x ∈ p0, x.block < W.heap.size := by obtain ⟨m, hm⟩ := k0; exact DataW.trod_lt m _ _ _ hm
  obtain ⟨A0, n0, c0, rfl⟩ := okWide_slice Try.underlying65 (hval 0 65 v0 rfl rfl)
  obtain ⟨x0, hk0, hg0⟩ := opens_arg op65 h0
  obtain ⟨Ax0, cx0, ex0, hl0, hr0⟩ := hk0
  simp only [Value.cells, List.cons.injEq, Value.slice.injEq, and_true, Array.toList] at ex0
  obtain ⟨rfl, rfl, rfl⟩ := ex0
  have k1 := h1
  have lt1 : ∀ x ∈ p1, x.block < W.heap.size := by obtain ⟨m, hm⟩ := k1; exact DataW.trod_lt m _ _ _ hm
  obtain ⟨a1, rfl⟩ := okWide_int Try.underlying3 (hval 1 3 v1 rfl rfl)
  obtain ⟨x1, hk1, hg1⟩ := opens_arg op3 h1
  obtain rfl : x1 = a1 := by have e : [_] = [_] := hk1; injection e with e _; injection e with e1 e2; exact e2.symm
  clear hA0 hval0 hsz0
  refine (LawFnExactConstOf.law A0 c0 x0 x1 W hr0 hl0 hg0 hg1).mono fun e W' ⟨he, bel⟩ => ?_
  subst he
  exact ⟨_, rfl, _, _, _, [], _, [], hW', trodAll_mk1 (shut_bool Try.underlying4 _), (trodAll_cons_mk (Below.trod laidOut (by kernel_rfl) (of_decide_eq_true (by kernel_rfl)) k0 bel lt0) (trodAll_cons_mk (Below.trod laidOut (by kernel_rfl) (of_decide_eq_true (by kernel_rfl)) k1 bel lt1) trodAll_mk0)), rfl, bel.frame _, fun h => by cases h⟩
theorem and_true_ {a b : Bool} (ha : a = true) (hb : b = true) : (a && b) = true := by rw [ha, hb]; rfl
theorem closed0 : (Rows.fnExactConstOfRow.wf (OpenSpec.ofChange Rows.fnExactConstOfSpec)) = true := by kernel_rfl
theorem closed1 : (laidOutB Try.pinned.checked.prog) = true := by kernel_rfl
theorem closed2 : (mapsRowed Try.pinned.checked.prog) = true := by kernel_rfl
theorem closed3 : (Try.f14.params.all (Try.pinned.checked.prog.readableRec ·)) = true := by kernel_rfl
theorem closed4 : (namedTie Try.pinned.checked.prog Rows.fnExactConstOfRow.named Rows.fnExactConstOfSpec.vars) = true := by kernel_rfl
theorem closed5 : ((Rows.fnExactConstOfRow.stops == [])) = true := by kernel_rfl
theorem closed6 : ((Try.pinned.checked.prog.stops == [])) = true := by kernel_rfl
theorem closed7 : ((Rows.fnExactConstOfRow.knobs == [])) = true := by kernel_rfl
theorem closed8 : ((Try.pinned.checked.prog.stopKnobs == [])) = true := by kernel_rfl
theorem closed9 : ((Rows.fnExactConstOfRow.inPlace == Try.pinned.checked.prog.inPlace 14)) = true := by kernel_rfl
theorem closed10 : ((Rows.fnExactConstOfRow.unfollowed == Try.pinned.checked.prog.unfollowed 14)) = true := by kernel_rfl
theorem closed11 : ((Rows.fnExactConstOfRow.recurses == Try.pinned.checked.prog.recurses 14)) = true := by kernel_rfl
theorem closed12 : ((Rows.fnExactConstOfRow.named == Try.pinned.checked.prog.varsNamed 14)) = true := by kernel_rfl
theorem closed13 : ((Rows.fnExactConstOfRow.maps == ((Try.f14.params.toList ++ Rows.fnExactConstOfSpec.plain.varTypes Try.pinned.checked.prog)).any (Try.pinned.checked.prog.mapsRec ·))) = true := by kernel_rfl
theorem closed14 : ((Rows.fnExactConstOfRow.ifaces == ((Try.f14.params.toList ++ Rows.fnExactConstOfSpec.plain.varTypes Try.pinned.checked.prog)).any (Try.pinned.checked.prog.ifacesRec ·))) = true := by kernel_rfl
theorem closed15 : ((Rows.fnExactConstOfRow.mapsOut == Try.pinned.checked.prog.mapsAmong Try.f14.resultTypes.toList)) = true := by kernel_rfl
theorem closed16 : ((Rows.fnExactConstOfRow.loops == ((Try.f14.params.toList ++ Rows.fnExactConstOfSpec.plain.varTypes Try.pinned.checked.prog)).any (Try.pinned.checked.prog.loopsFrom ·))) = true := by kernel_rfl
theorem closed17 : ((Rows.fnExactConstOfRow.wideKeys == (Try.f14.params.toList ++ Rows.fnExactConstOfSpec.plain.varTypes Try.pinned.checked.prog ++ Try.f14.resultTypes.toList).any (Try.pinned.checked.prog.wideKeysFrom ·))) = true := by kernel_rfl
theorem closed18 : (Rows.fnExactConstOfSpec.vars.all (Try.pinned.checked.prog.varReadable ·)) = true := by kernel_rfl
theorem closed19 : (Try.f14.resultTypes.all (fun t => Try.pinned.checked.prog.readableRec t && decide (t < Try.pinned.checked.prog.types.size))) = true := by kernel_rfl
theorem closed20 : ((Rows.fnExactConstOfRow.ifacesOut == Try.f14.resultTypes.toList.any (Try.pinned.checked.prog.ifacesRec ·))) = true := by kernel_rfl
theorem closed21 : ((Rows.fnExactConstOfRow.loopsOut == Try.f14.resultTypes.toList.any (Try.pinned.checked.prog.loopsFrom ·))) = true := by kernel_rfl
theorem closed22 : ((Rows.fnExactConstOfRow.plainKeys == Try.pinned.checked.prog.plainKeys)) = true := by kernel_rfl
theorem closed23 : (Rows.fnExactConstOfRow.shortTexts.isNone) = true := by kernel_rfl
theorem closed24 : (Try.pinned.checked.prog.stopsHeard) = true := by kernel_rfl
theorem closed25 : (Try.pinned.checked.prog.mayEnter) = true := by kernel_rfl
theorem closed26 : ((Rows.fnExactConstOfRow.lifted == Try.pinned.checked.prog.liftsFinal)) = true := by kernel_rfl
theorem closed27 : ((Try.pinned.checked.prog.make == some Rows.fnExactConstOfRow.make)) = true := by kernel_rfl
theorem closed28 : ((Rows.fnExactConstOfRow.kinds == (if Rows.fnExactConstOfRow.domain.isEmpty then [] else Try.f14.params.toList.map fun t => match Try.pinned.checked.prog.underlying t with | some (.int k) => some k | _ => none))) = true := by kernel_rfl
theorem closed29 : ((Rows.fnExactConstOfRow.pinned == Rows.fnExactConstOfRow.pinnedBy)) = true := by kernel_rfl
theorem closed30 : ((Rows.fnExactConstOfRow.veiled == (Try.f14.params.toList ++ Rows.fnExactConstOfSpec.plain.varTypes Try.pinned.checked.prog ++ Try.f14.resultTypes.toList).any (Try.pinned.checked.prog.veiledRec ·))) = true := by kernel_rfl
theorem closed31 : (Rows.fnExactConstOfRow.veiledFits Try.pinned.checked.prog Try.f14.params.toList (Try.f14.params.toList ++ Rows.fnExactConstOfSpec.plain.varTypes Try.pinned.checked.prog ++ Try.f14.resultTypes.toList)) = true := by kernel_rfl
set_option maxRecDepth 100000 in
theorem closed : joinedFacts Try.pinned.checked.prog 14 Try.f14 Rows.fnExactConstOfSpec Rows.fnExactConstOfRow = true := by
  show (Rows.fnExactConstOfRow.wf (OpenSpec.ofChange Rows.fnExactConstOfSpec) && laidOutB Try.pinned.checked.prog && mapsRowed Try.pinned.checked.prog && Try.f14.params.all (Try.pinned.checked.prog.readableRec ·) && namedTie Try.pinned.checked.prog Rows.fnExactConstOfRow.named Rows.fnExactConstOfSpec.vars && (Rows.fnExactConstOfRow.stops == []) && (Try.pinned.checked.prog.stops == []) && (Rows.fnExactConstOfRow.knobs == []) && (Try.pinned.checked.prog.stopKnobs == []) && (Rows.fnExactConstOfRow.inPlace == Try.pinned.checked.prog.inPlace 14) && (Rows.fnExactConstOfRow.unfollowed == Try.pinned.checked.prog.unfollowed 14) && (Rows.fnExactConstOfRow.recurses == Try.pinned.checked.prog.recurses 14) && (Rows.fnExactConstOfRow.named == Try.pinned.checked.prog.varsNamed 14) && (Rows.fnExactConstOfRow.maps == ((Try.f14.params.toList ++ Rows.fnExactConstOfSpec.plain.varTypes Try.pinned.checked.prog)).any (Try.pinned.checked.prog.mapsRec ·)) && (Rows.fnExactConstOfRow.ifaces == ((Try.f14.params.toList ++ Rows.fnExactConstOfSpec.plain.varTypes Try.pinned.checked.prog)).any (Try.pinned.checked.prog.ifacesRec ·)) && (Rows.fnExactConstOfRow.mapsOut == Try.pinned.checked.prog.mapsAmong Try.f14.resultTypes.toList) && (Rows.fnExactConstOfRow.loops == ((Try.f14.params.toList ++ Rows.fnExactConstOfSpec.plain.varTypes Try.pinned.checked.prog)).any (Try.pinned.checked.prog.loopsFrom ·)) && (Rows.fnExactConstOfRow.wideKeys == (Try.f14.params.toList ++ Rows.fnExactConstOfSpec.plain.varTypes Try.pinned.checked.prog ++ Try.f14.resultTypes.toList).any (Try.pinned.checked.prog.wideKeysFrom ·)) && Rows.fnExactConstOfSpec.vars.all (Try.pinned.checked.prog.varReadable ·) && Try.f14.resultTypes.all (fun t => Try.pinned.checked.prog.readableRec t && decide (t < Try.pinned.checked.prog.types.size)) && (Rows.fnExactConstOfRow.ifacesOut == Try.f14.resultTypes.toList.any (Try.pinned.checked.prog.ifacesRec ·)) && (Rows.fnExactConstOfRow.loopsOut == Try.f14.resultTypes.toList.any (Try.pinned.checked.prog.loopsFrom ·)) && (Rows.fnExactConstOfRow.plainKeys == Try.pinned.checked.prog.plainKeys) && Rows.fnExactConstOfRow.shortTexts.isNone && Try.pinned.checked.prog.stopsHeard && Try.pinned.checked.prog.mayEnter && (Rows.fnExactConstOfRow.lifted == Try.pinned.checked.prog.liftsFinal) && (Try.pinned.checked.prog.make == some Rows.fnExactConstOfRow.make) && (Rows.fnExactConstOfRow.kinds == (if Rows.fnExactConstOfRow.domain.isEmpty then [] else Try.f14.params.toList.map fun t => match Try.pinned.checked.prog.underlying t with | some (.int k) => some k | _ => none)) && (Rows.fnExactConstOfRow.pinned == Rows.fnExactConstOfRow.pinnedBy) && (Rows.fnExactConstOfRow.veiled == (Try.f14.params.toList ++ Rows.fnExactConstOfSpec.plain.varTypes Try.pinned.checked.prog ++ Try.f14.resultTypes.toList).any (Try.pinned.checked.prog.veiledRec ·)) && Rows.fnExactConstOfRow.veiledFits Try.pinned.checked.prog Try.f14.params.toList (Try.f14.params.toList ++ Rows.fnExactConstOfSpec.plain.varTypes Try.pinned.checked.prog ++ Try.f14.resultTypes.toList)) = true
  exact (and_true_ (and_true_ (and_true_ (and_true_ (and_true_ (and_true_ (and_true_ (and_true_ (and_true_ (and_true_ (and_true_ (and_true_ (and_true_ (and_true_ (and_true_ (and_true_ (and_true_ (and_true_ (and_true_ (and_true_ (and_true_ (and_true_ (and_true_ (and_true_ (and_true_ (and_true_ (and_true_ (and_true_ (and_true_ (and_true_ (and_true_ closed0 closed1) closed2) closed3) closed4) closed5) closed6) closed7) closed8) closed9) closed10) closed11) closed12) closed13) closed14) closed15) closed16) closed17) closed18) closed19) closed20) closed21) closed22) closed23) closed24) closed25) closed26) closed27) closed28) closed29) closed30) closed31)
theorem named : Try.pinned.checked.prog.funcNamed Rows.fnExactConstOfRow.func = some 14 := by kernel_rfl
theorem over : Rows.fnExactConstOfRow.holds Try.pinned (OpenSpec.ofChange Rows.fnExactConstOfSpec) :=
  OpenClaim.holds_of_wide 14 Try.f14 rfl rfl rfl rfl rfl rfl rfl ⟨rfl, rfl, rfl, rfl, rfl⟩ rfl rfl rfl rfl rfl named Try.func14 closed
    (of_decide_eq_true (by kernel_rfl)) (by unfold Func.isWrapper; first | (rw [if_pos (by decide +kernel)]; kernel_rfl) | (rw [if_neg (by decide +kernel)]; exact ⟨rfl, rfl⟩))
    (fun os started H enc _ => lifted os started H enc)
theorem proved : Rows.FnExactConstOfSaid := over
#print axioms proved
end Go.Proofs.Ytlhfhfamifmijaa.fnExactConstOf
namespace Go.Proofs.Ytlhfhfamifmijaa
/-- The row, under a short name, for the claim. -/
theorem fnExactConstOf_holds : Rows.FnExactConstOfSaid := fnExactConstOf.proved
end Go.Proofs.Ytlhfhfamifmijaa
end
