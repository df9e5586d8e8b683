/- Part 19 of the proof: general lemmas, contracts of functions, walks. No condition of its own. -/
import Derived.Deep.RegionHeld3
import Derived.WalkKit
import Derived.KernelRfl
import Derived.Test.YtokhgodcamhibaaBc16
import Derived.Test.YtokhgodcamhibaaBc14
import Derived.Test.YtokhgodcamhibaaBc18
import Derived.Test.YtokhgodcamhibaaBc3
import Derived.Test.YtokhgodcamhibaaBc2
section
namespace Go.Proofs.Ytokhgodcamhibaa.QFnCompares
open Go.RowKit Go.Proofs.YtokhgodcamhibaaW.PrintWords Go.Proofs.YtokhgodcamhibaaW.PrintLast Go.Proofs.YtokhgodcamhibaaW.PrintMore Go.Proofs.Ytokhgodcamhibaa.QFnExactDoBinary Go.Proofs.Ytokhgodcamhibaa.QFnQuotients Go.Proofs.Ytokhgodcamhibaa.QFnRoots
attribute [local go_sem] max_two min_two max_three min_three max_four min_four run_field34_0 max2_mx min2_mn   -- for this text's walks alone
set_option linter.unusedVariables false
set_option linter.unusedSimpArgs false
def impl_PartsOfNumber.j0 : Nat → Bool → Int → Int → Bool → Option (Int × Bool × Int × Int)
  | 0, _, _, _, _ => none
  | k + 1, x3, x4, x5, x24 => if x24 = true then (some (3, x3, 0, 0)) else (if x5 = 0 then (some (4, x3, x4, (-1074))) else (some (4, x3, Go.bits .or .u64 x4 4503599627370496, wrap64 (x5 - 1075))))
def impl_PartsOfNumber.f (k : Nat) (a0 : Int) : Option (Int × Bool × Int × Int) := (impl_isNaN.f a0).bind fun t346 => (if t346 = true then (some (1, false, 0, 0)) else (if (wrap64 (Go.bits .and .u64 (a0 / 4503599627370496) 2047)) = 2047 then (some (2, ((a0 / 9223372036854775808) == 1), 0, 0)) else (if (wrap64 (Go.bits .and .u64 (a0 / 4503599627370496) 2047)) = 0 then (impl_PartsOfNumber.j0 k ((a0 / 9223372036854775808) == 1) (Go.bits .and .u64 a0 4503599627370495) (wrap64 (Go.bits .and .u64 (a0 / 4503599627370496) 2047)) ((Go.bits .and .u64 a0 4503599627370495) == 0)) else (impl_PartsOfNumber.j0 k ((a0 / 9223372036854775808) == 1) (Go.bits .and .u64 a0 4503599627370495) (wrap64 (Go.bits .and .u64 (a0 / 4503599627370496) 2047)) false))))
theorem impl_PartsOfNumber.mono_l : ∀ k, (∀ y0 y1 y2 y3, LeO (impl_PartsOfNumber.j0 k y0 y1 y2 y3) (impl_PartsOfNumber.j0 (k + 1) y0 y1 y2 y3))
  | 0 => fun _ _ _ _ r h => by simp [impl_PartsOfNumber.j0] at h
  | k + 1 => by
    have ih0 := impl_PartsOfNumber.mono_l k
    · intro y0 y1 y2 y3
      unfold impl_PartsOfNumber.j0
      repeat' first
      | (with_reducible exact ih0 _ _ _ _)
      | (with_reducible exact LeO.refl _)
      | (with_reducible exact LeO.none _)
      | (with_reducible refine LeO.ite ?_ ?_)
      | (with_reducible refine LeO.bind ?_ (fun _ => ?_))
      | exact ih0 _ _ _ _
      | exact LeO.none _
      | refine LeO.ite ?_ ?_
      | refine LeO.bind ?_ (fun _ => ?_)
theorem impl_PartsOfNumber.mono : ∀ a0 k, LeO (impl_PartsOfNumber.f k a0) (impl_PartsOfNumber.f (k + 1) a0) := by
  intro a0 k
  have ih0 := impl_PartsOfNumber.mono_l k
  unfold impl_PartsOfNumber.f
  repeat' first
      | (with_reducible exact ih0 _ _ _ _)
      | (with_reducible exact LeO.refl _)
      | (with_reducible exact LeO.none _)
      | (with_reducible refine LeO.ite ?_ ?_)
      | (with_reducible refine LeO.bind ?_ (fun _ => ?_))
      | exact ih0 _ _ _ _
      | exact LeO.none _
      | refine LeO.ite ?_ ?_
      | refine LeO.bind ?_ (fun _ => ?_)
set_option maxHeartbeats 8000000 in
set_option maxRecDepth 100000 in
theorem impl_PartsOfNumber.calls (k : Nat) (a0 : Int) (r1 : Int) (r2 : Bool) (r3 : Int) (r4 : Int) (w : World) (h : impl_PartsOfNumber.f k a0 = some (r1, r2, r3, r4)) :
    Calls Try.prog 78 #[.int .u64 a0] w fun e w' => e = .returned (.agg #[.int .i64 r1, .bool r2, .int .u64 r3, .int .i64 r4]) ∧ Below w.heap.size w w' := by
  have hu34 := Try.underlying34
  have HB := Aside0.mk (Below.refl w.heap.size w)
  have H : ((impl_isNaN.f a0).bind fun t346 => (if t346 = true then (some (1, false, 0, 0)) else (if (wrap64 (Go.bits .and .u64 (a0 / 4503599627370496) 2047)) = 2047 then (some (2, ((a0 / 9223372036854775808) == 1), 0, 0)) else (if (wrap64 (Go.bits .and .u64 (a0 / 4503599627370496) 2047)) = 0 then (impl_PartsOfNumber.j0 k ((a0 / 9223372036854775808) == 1) (Go.bits .and .u64 a0 4503599627370495) (wrap64 (Go.bits .and .u64 (a0 / 4503599627370496) 2047)) ((Go.bits .and .u64 a0 4503599627370495) == 0)) else (impl_PartsOfNumber.j0 k ((a0 / 9223372036854775808) == 1) (Go.bits .and .u64 a0 4503599627370495) (wrap64 (Go.bits .and .u64 (a0 / 4503599627370496) 2047)) false))))) = some (r1, r2, r3, r4) := h
  clear h
  replace H := Option.bind_eq_some_iff.mp H
  obtain ⟨t346, A20, H⟩ := H
  replace H : (if t346 = true then (some (1, false, 0, 0)) else (if (wrap64 (Go.bits .and .u64 (a0 / 4503599627370496) 2047)) = 2047 then (some (2, ((a0 / 9223372036854775808) == 1), 0, 0)) else (if (wrap64 (Go.bits .and .u64 (a0 / 4503599627370496) 2047)) = 0 then (impl_PartsOfNumber.j0 k ((a0 / 9223372036854775808) == 1) (Go.bits .and .u64 a0 4503599627370495) (wrap64 (Go.bits .and .u64 (a0 / 4503599627370496) 2047)) ((Go.bits .and .u64 a0 4503599627370495) == 0)) else (impl_PartsOfNumber.j0 k ((a0 / 9223372036854775808) == 1) (Go.bits .and .u64 a0 4503599627370495) (wrap64 (Go.bits .and .u64 (a0 / 4503599627370496) 2047)) false)))) = some (r1, r2, r3, r4) := H
  have A2 := Aside0.mk A20
  clear A20
  by_cases c3 : t346 = true
  · subst c3
    have H1 : (some (1, false, 0, 0)) = some (r1, r2, r3, r4) := by rw [if_pos rfl] at H; exact H
    clear H
    have H := H1
    clear H1
    simp only [Option.some.injEq, Prod.mk.injEq] at H
    obtain ⟨rfl, rfl, rfl, rfl⟩ := H
    go_enter Try.func78, Try.ntmps78
    go_wp2_with (first | ((with_reducible refine gate_dst (N := 2) rfl ?_); refine box_event ?hg (N := 2) ?hd (cs := #[.int .i64 0, .bool false, .int .u64 0, .int .i64 0]) (t := 34) ?hr ?_; (case hd => rfl); (case hg => rfl); (case hr => first | (go_simp; done) | (go_simp; rfl)); intro gb345 hg w4 hbox hb; have n0_ := Aside0.mk (below_step (by repeat (first | (with_reducible first | exact HB.out | apply below_alloc | apply pw_below_drewN | apply below_drew1) | exact HB.out)) hb); have n1_ := Aside0.mk (hbox); have n2_ := Aside0.mk ((by rw [hg]; exact (below_size (by repeat (first | (with_reducible first | exact HB.out | apply below_alloc | apply pw_below_drewN | apply below_drew1) | exact HB.out))) : w.heap.size ≤ gb345)); have n3_ := Aside0.mk ((by rw [hg]; exact (below_size (by repeat (first | (with_reducible first | exact HB.out | apply below_alloc | apply pw_below_drewN | apply below_drew1) | exact HB.out))) : w.heap.size ≤ gb345)); clear HB; have HB := n0_; have BK345 := n1_; have GW345 := n2_; have GE345 := n3_; clear n0_ n1_ n2_ n3_; clear hb hbox hg) | ((with_reducible refine gate_callee (f := 88) rfl ?_); refine goesL_ (some 17) rfl rfl Try.func88 (by kernel_rfl) rfl #[.int .u64 a0] rfl (by (try simp only [List.map_toArray, List.map_cons, List.map_nil]); first | done | rfl | (simp only [List.length_drop, List.length_take]; rfl)) ?_; (with_reducible refine (impl_isNaN.calls a0 true _ A2.out).mono ?_); rintro e w' ⟨rfl, ⟨nd, rfl⟩⟩; refine ⟨_, rfl, ?_⟩; (try (rw [drewN_self w4]; generalize hq_ : World.drewN w4 _ = w4; have n0_ : Aside0 (w4.heap[gb345]? = some (.cells #[.int .i64 0, .bool false, .int .u64 0, .int .i64 0] 34 (0, 0))) := ⟨by rw [← hq_]; exact (by (with_reducible repeat (first | refine blk_drewN ?_ _ | refine blk_drew ?_ | refine blk_alloc ?_ _)); exact BK345.out)⟩; have n1_ : Aside0 (Below w.heap.size w w4) := ⟨by rw [← hq_]; exact (by repeat (first | (with_reducible first | exact HB.out | apply below_alloc | apply pw_below_drewN | apply below_drew1 | refine below_set ?_ GE345.out) | exact HB.out))⟩; clear BK345 HB hq_; have BK345 := n0_; have HB := n1_; clear n0_ n1_)); have hcz5_0 : w4.cell? ⟨gb345, 0, none⟩ = some (.int .i64 0) := (blk_cell BK345.out 0).trans rfl; have hcz5_1 : w4.cell? ⟨gb345, 1, none⟩ = some (.bool false) := (blk_cell BK345.out 1).trans rfl; have hcz5_2 : w4.cell? ⟨gb345, 2, none⟩ = some (.int .u64 0) := (blk_cell BK345.out 2).trans rfl; have hcz5_3 : w4.cell? ⟨gb345, 3, none⟩ = some (.int .i64 0) := (blk_cell BK345.out 3).trans rfl; have hfz5_0 := blk_frozen BK345.out 0; have hfz5_1 := blk_frozen BK345.out 1; have hfz5_2 := blk_frozen BK345.out 2; have hfz5_3 := blk_frozen BK345.out 3))
    refine bodyPost_ret (results_cell_row rfl _ _ gb345 34 #[.int .i64 1, .bool false, .int .u64 0, .int .i64 0] (0, 0) _ rfl (by (with_reducible repeat (first | refine blk_drewN ?_ _ | refine blk_drew ?_ | refine blk_alloc ?_ _)); refine blk_put (cs := #[.int .i64 1, .bool false, .int .u64 0, .int .i64 0]) ?_ 3 _ rfl; (with_reducible repeat (first | refine blk_drewN ?_ _ | refine blk_drew ?_ | refine blk_alloc ?_ _)); refine blk_put (cs := #[.int .i64 1, .bool false, .int .u64 0, .int .i64 0]) ?_ 2 _ rfl; (with_reducible repeat (first | refine blk_drewN ?_ _ | refine blk_drew ?_ | refine blk_alloc ?_ _)); refine blk_put (cs := #[.int .i64 1, .bool false, .int .u64 0, .int .i64 0]) ?_ 1 _ rfl; (with_reducible repeat (first | refine blk_drewN ?_ _ | refine blk_drew ?_ | refine blk_alloc ?_ _)); refine blk_put (cs := #[.int .i64 0, .bool false, .int .u64 0, .int .i64 0]) ?_ 0 _ rfl; (with_reducible repeat (first | refine blk_drewN ?_ _ | refine blk_drew ?_ | refine blk_alloc ?_ _)); exact BK345.out) Try.underlying34 rfl (by kernel_rfl)) rfl ?_
    exact ⟨by first | rfl | (simp; done) | (simp [errW_none, errW_some] <;> rfl) | (simp [*, errW_none, errW_some] <;> rfl) | (simp [bne, List.isEmpty_iff]; done) | (rw [Bool.eq_iff_iff]; simp), by repeat (first | (with_reducible first | exact HB.out | apply below_alloc | apply pw_below_drewN | apply below_drew1 | refine below_set ?_ GE345.out) | exact HB.out)⟩
  · replace c3 := Bool.eq_false_iff.mpr c3
    subst c3
    have H1 : (if (wrap64 (Go.bits .and .u64 (a0 / 4503599627370496) 2047)) = 2047 then (some (2, ((a0 / 9223372036854775808) == 1), 0, 0)) else (if (wrap64 (Go.bits .and .u64 (a0 / 4503599627370496) 2047)) = 0 then (impl_PartsOfNumber.j0 k ((a0 / 9223372036854775808) == 1) (Go.bits .and .u64 a0 4503599627370495) (wrap64 (Go.bits .and .u64 (a0 / 4503599627370496) 2047)) ((Go.bits .and .u64 a0 4503599627370495) == 0)) else (impl_PartsOfNumber.j0 k ((a0 / 9223372036854775808) == 1) (Go.bits .and .u64 a0 4503599627370495) (wrap64 (Go.bits .and .u64 (a0 / 4503599627370496) 2047)) false))) = some (r1, r2, r3, r4) := by rw [if_neg (show ¬ (false = true) by decide)] at H; exact H
    clear H
    have H := H1
    clear H1
    by_cases c6 : (wrap64 (Go.bits .and .u64 (a0 / 4503599627370496) 2047)) = 2047
    · rw [if_pos c6] at H
      have c6b0 : ((wrap64 (Go.bits .and .u64 (a0 / 4503599627370496) 2047)) == 2047) = true := beq_iff_eq.mpr c6
      have c6b1 : ((wrap64 (Go.bits .and .u64 (a0 / 4503599627370496) 2047)) != 2047) = false := bne_eq_false_iff_eq.mpr c6
      clear c6
      simp only [Option.some.injEq, Prod.mk.injEq] at H
      obtain ⟨rfl, rfl, rfl, rfl⟩ := H
      go_enter Try.func78, Try.ntmps78
      go_wp2_with (first | ((with_reducible refine gate_dst (N := 2) rfl ?_); refine box_event ?hg (N := 2) ?hd (cs := #[.int .i64 0, .bool false, .int .u64 0, .int .i64 0]) (t := 34) ?hr ?_; (case hd => rfl); (case hg => rfl); (case hr => first | (go_simp; done) | (go_simp; rfl)); intro gb345 hg w7 hbox hb; have n0_ := Aside0.mk (below_step (by repeat (first | (with_reducible first | exact HB.out | apply below_alloc | apply pw_below_drewN | apply below_drew1) | exact HB.out)) hb); have n1_ := Aside0.mk (hbox); have n2_ := Aside0.mk ((by rw [hg]; exact (below_size (by repeat (first | (with_reducible first | exact HB.out | apply below_alloc | apply pw_below_drewN | apply below_drew1) | exact HB.out))) : w.heap.size ≤ gb345)); have n3_ := Aside0.mk ((by rw [hg]; exact (below_size (by repeat (first | (with_reducible first | exact HB.out | apply below_alloc | apply pw_below_drewN | apply below_drew1) | exact HB.out))) : w.heap.size ≤ gb345)); clear HB; have HB := n0_; have BK345 := n1_; have GW345 := n2_; have GE345 := n3_; clear n0_ n1_ n2_ n3_; clear hb hbox hg) | ((with_reducible refine gate_callee (f := 88) rfl ?_); refine goesL_ (some 17) rfl rfl Try.func88 (by kernel_rfl) rfl #[.int .u64 a0] rfl (by (try simp only [List.map_toArray, List.map_cons, List.map_nil]); first | done | rfl | (simp only [List.length_drop, List.length_take]; rfl)) ?_; (with_reducible refine (impl_isNaN.calls a0 false _ A2.out).mono ?_); rintro e w' ⟨rfl, ⟨nd, rfl⟩⟩; refine ⟨_, rfl, ?_⟩; (try (rw [drewN_self w7]; generalize hq_ : World.drewN w7 _ = w7; have n0_ : Aside0 (w7.heap[gb345]? = some (.cells #[.int .i64 0, .bool false, .int .u64 0, .int .i64 0] 34 (0, 0))) := ⟨by rw [← hq_]; exact (by (with_reducible repeat (first | refine blk_drewN ?_ _ | refine blk_drew ?_ | refine blk_alloc ?_ _)); exact BK345.out)⟩; have n1_ : Aside0 (Below w.heap.size w w7) := ⟨by rw [← hq_]; exact (by repeat (first | (with_reducible first | exact HB.out | apply below_alloc | apply pw_below_drewN | apply below_drew1 | refine below_set ?_ GE345.out) | exact HB.out))⟩; clear BK345 HB hq_; have BK345 := n0_; have HB := n1_; clear n0_ n1_)); have hcz8_0 : w7.cell? ⟨gb345, 0, none⟩ = some (.int .i64 0) := (blk_cell BK345.out 0).trans rfl; have hcz8_1 : w7.cell? ⟨gb345, 1, none⟩ = some (.bool false) := (blk_cell BK345.out 1).trans rfl; have hcz8_2 : w7.cell? ⟨gb345, 2, none⟩ = some (.int .u64 0) := (blk_cell BK345.out 2).trans rfl; have hcz8_3 : w7.cell? ⟨gb345, 3, none⟩ = some (.int .i64 0) := (blk_cell BK345.out 3).trans rfl; have hfz8_0 := blk_frozen BK345.out 0; have hfz8_1 := blk_frozen BK345.out 1; have hfz8_2 := blk_frozen BK345.out 2; have hfz8_3 := blk_frozen BK345.out 3))
      refine bodyPost_ret (results_cell_row rfl _ _ gb345 34 #[.int .i64 2, .bool ((a0 / 9223372036854775808) == 1), .int .u64 0, .int .i64 0] (0, 0) _ rfl (by (with_reducible repeat (first | refine blk_drewN ?_ _ | refine blk_drew ?_ | refine blk_alloc ?_ _)); refine blk_put (cs := #[.int .i64 2, .bool ((a0 / 9223372036854775808) == 1), .int .u64 0, .int .i64 0]) ?_ 3 _ rfl; (with_reducible repeat (first | refine blk_drewN ?_ _ | refine blk_drew ?_ | refine blk_alloc ?_ _)); refine blk_put (cs := #[.int .i64 2, .bool ((a0 / 9223372036854775808) == 1), .int .u64 0, .int .i64 0]) ?_ 2 _ rfl; (with_reducible repeat (first | refine blk_drewN ?_ _ | refine blk_drew ?_ | refine blk_alloc ?_ _)); refine blk_put (cs := #[.int .i64 2, .bool false, .int .u64 0, .int .i64 0]) ?_ 1 _ rfl; (with_reducible repeat (first | refine blk_drewN ?_ _ | refine blk_drew ?_ | refine blk_alloc ?_ _)); refine blk_put (cs := #[.int .i64 0, .bool false, .int .u64 0, .int .i64 0]) ?_ 0 _ rfl; (with_reducible repeat (first | refine blk_drewN ?_ _ | refine blk_drew ?_ | refine blk_alloc ?_ _)); exact BK345.out) Try.underlying34 rfl (by kernel_rfl)) rfl ?_
      exact ⟨by first | rfl | (simp; done) | (simp [errW_none, errW_some] <;> rfl) | (simp [*, errW_none, errW_some] <;> rfl) | (simp [bne, List.isEmpty_iff]; done) | (rw [Bool.eq_iff_iff]; simp), by repeat (first | (with_reducible first | exact HB.out | apply below_alloc | apply pw_below_drewN | apply below_drew1 | refine below_set ?_ GE345.out) | exact HB.out)⟩
    · rw [if_neg c6] at H
      have c6b0 : ((wrap64 (Go.bits .and .u64 (a0 / 4503599627370496) 2047)) == 2047) = false := beq_eq_false_iff_ne.mpr c6
      have c6b1 : ((wrap64 (Go.bits .and .u64 (a0 / 4503599627370496) 2047)) != 2047) = true := bne_iff_ne.mpr c6
      have HC9 := Aside0.mk H
      clear H
      go_enter Try.func78, Try.ntmps78
      go_upto_region 8 with (first | ((with_reducible refine gate_dst (N := 2) rfl ?_); refine box_event ?hg (N := 2) ?hd (cs := #[.int .i64 0, .bool false, .int .u64 0, .int .i64 0]) (t := 34) ?hr ?_; (case hd => rfl); (case hg => rfl); (case hr => first | (go_simp; done) | (go_simp; rfl)); intro gb345 hg w10 hbox hb; have n0_ := Aside0.mk (below_step (by repeat (first | (with_reducible first | exact HB.out | apply below_alloc | apply pw_below_drewN | apply below_drew1) | exact HB.out)) hb); have n1_ := Aside0.mk (hbox); have n2_ := Aside0.mk ((by rw [hg]; exact (below_size (by repeat (first | (with_reducible first | exact HB.out | apply below_alloc | apply pw_below_drewN | apply below_drew1) | exact HB.out))) : w.heap.size ≤ gb345)); have n3_ := Aside0.mk ((by rw [hg]; exact (below_size (by repeat (first | (with_reducible first | exact HB.out | apply below_alloc | apply pw_below_drewN | apply below_drew1) | exact HB.out))) : w.heap.size ≤ gb345)); clear HB; have HB := n0_; have BK345 := n1_; have GW345 := n2_; have GE345 := n3_; clear n0_ n1_ n2_ n3_; clear hb hbox hg) | ((with_reducible refine gate_callee (f := 88) rfl ?_); refine goesL_ (some 17) rfl rfl Try.func88 (by kernel_rfl) rfl #[.int .u64 a0] rfl (by (try simp only [List.map_toArray, List.map_cons, List.map_nil]); first | done | rfl | (simp only [List.length_drop, List.length_take]; rfl)) ?_; (with_reducible refine (impl_isNaN.calls a0 false _ A2.out).mono ?_); rintro e w' ⟨rfl, ⟨nd, rfl⟩⟩; refine ⟨_, rfl, ?_⟩))
      (try simp only [Act.put, List.setIfInBounds_toArray, List.set_cons_zero, List.set_cons_succ])
      go_cut [24] (fun v24 wc => ∃ (kq : Nat) (x24_8 : Bool), v24 = .bool x24_8 ∧ Aside0 (impl_PartsOfNumber.j0 kq ((a0 / 9223372036854775808) == 1) (Go.bits .and .u64 a0 4503599627370495) (wrap64 (Go.bits .and .u64 (a0 / 4503599627370496) 2047)) x24_8 = some (r1, r2, r3, r4)) ∧ Aside0 (kq ≤ k) ∧ Aside0 (wc.heap[gb345]? = some (.cells #[.int .i64 0, .bool false, .int .u64 0, .int .i64 0] 34 (0, 0))) ∧ Aside0 (Below w.heap.size w wc))
      case first =>
        have H := HC9.out
        clear HC9
        by_cases c11 : (wrap64 (Go.bits .and .u64 (a0 / 4503599627370496) 2047)) = 0
        · rw [if_pos c11] at H
          have c11b0 : ((wrap64 (Go.bits .and .u64 (a0 / 4503599627370496) 2047)) == 0) = true := beq_iff_eq.mpr c11
          have c11b1 : ((wrap64 (Go.bits .and .u64 (a0 / 4503599627370496) 2047)) != 0) = false := bne_eq_false_iff_eq.mpr c11
          clear c11
          (first | rw [c11b0] | (simp only [i64_w, i32_w]; rw [c11b0]) | skip)
          have H' := Aside0.mk H
          clear H
          go_wp2
          go_meet
          case rel => exact ⟨_, (((Go.bits .and .u64 a0 4503599627370495) == 0)), (by first | rfl | (simp; done) | (simp [*]; done)), H', ⟨by first | omega | exact Nat.le_refl _⟩, ⟨by (with_reducible repeat (first | refine blk_drewN ?_ _ | refine blk_drew ?_ | refine blk_alloc ?_ _)); exact BK345.out⟩, ⟨by repeat (first | (with_reducible first | exact HB.out | apply below_alloc | apply pw_below_drewN | apply below_drew1 | refine below_set ?_ GE345.out) | exact HB.out)⟩⟩
        · rw [if_neg c11] at H
          have c11b0 : ((wrap64 (Go.bits .and .u64 (a0 / 4503599627370496) 2047)) == 0) = false := beq_eq_false_iff_ne.mpr c11
          have c11b1 : ((wrap64 (Go.bits .and .u64 (a0 / 4503599627370496) 2047)) != 0) = true := bne_iff_ne.mpr c11
          (first | rw [c11b0] | (simp only [i64_w, i32_w]; rw [c11b0]) | skip)
          have H' := Aside0.mk H
          clear H
          go_wp2
          go_meet
          case rel => exact ⟨_, (false), (by first | rfl | (simp; done) | (simp [*]; done)), H', ⟨by first | omega | exact Nat.le_refl _⟩, ⟨by (with_reducible repeat (first | refine blk_drewN ?_ _ | refine blk_drew ?_ | refine blk_alloc ?_ _)); exact BK345.out⟩, ⟨by repeat (first | (with_reducible first | exact HB.out | apply below_alloc | apply pw_below_drewN | apply below_drew1 | refine below_set ?_ GE345.out) | exact HB.out)⟩⟩
      case rest =>
        clear HC9
        try clear c1
        try clear p2
        try clear c3
        try clear c6
        try clear c6b0
        try clear c6b1
        try clear p6
        try clear c7
        try clear c8
        try clear c11
        try clear c11b0
        try clear c11b1
        try clear hcz5_0
        try clear hcz5_1
        try clear hcz5_2
        try clear hcz5_3
        try clear hcz8_0
        try clear hcz8_1
        try clear hcz8_2
        try clear hcz8_3
        try clear hfz5_0
        try clear hfz5_1
        try clear hfz5_2
        try clear hfz5_3
        try clear hfz8_0
        try clear hfz8_1
        try clear hfz8_2
        try clear hfz8_3
        obtain ⟨kq, x24_8, rfl, HA, HJ8, BK345, HB⟩ := hcut
        cases kq with
        | zero => exact absurd HA.out (by simp [impl_PartsOfNumber.j0])
        | succ kj8 =>
          have H := HA.out
          clear HA
          simp only [impl_PartsOfNumber.j0] at H
          by_cases c12 : x24_8 = true
          · subst c12
            have H1 : (some (3, ((a0 / 9223372036854775808) == 1), 0, 0)) = some (r1, r2, r3, r4) := by rw [if_pos rfl] at H; exact H
            clear H
            have H := H1
            clear H1
            simp only [Option.some.injEq, Prod.mk.injEq] at H
            obtain ⟨rfl, rfl, rfl, rfl⟩ := H
            have hcz13_0 : wc.cell? ⟨gb345, 0, none⟩ = some (.int .i64 0) := (blk_cell BK345.out 0).trans rfl
            have hcz13_1 : wc.cell? ⟨gb345, 1, none⟩ = some (.bool false) := (blk_cell BK345.out 1).trans rfl
            have hcz13_2 : wc.cell? ⟨gb345, 2, none⟩ = some (.int .u64 0) := (blk_cell BK345.out 2).trans rfl
            have hcz13_3 : wc.cell? ⟨gb345, 3, none⟩ = some (.int .i64 0) := (blk_cell BK345.out 3).trans rfl
            have hfz13_0 := blk_frozen BK345.out 0
            have hfz13_1 := blk_frozen BK345.out 1
            have hfz13_2 := blk_frozen BK345.out 2
            have hfz13_3 := blk_frozen BK345.out 3
            go_wp2
            refine bodyPost_ret (results_cell_row rfl _ _ gb345 34 #[.int .i64 3, .bool ((a0 / 9223372036854775808) == 1), .int .u64 0, .int .i64 0] (0, 0) _ rfl (by (with_reducible repeat (first | refine blk_drewN ?_ _ | refine blk_drew ?_ | refine blk_alloc ?_ _)); refine blk_put (cs := #[.int .i64 3, .bool ((a0 / 9223372036854775808) == 1), .int .u64 0, .int .i64 0]) ?_ 3 _ rfl; (with_reducible repeat (first | refine blk_drewN ?_ _ | refine blk_drew ?_ | refine blk_alloc ?_ _)); refine blk_put (cs := #[.int .i64 3, .bool ((a0 / 9223372036854775808) == 1), .int .u64 0, .int .i64 0]) ?_ 2 _ rfl; (with_reducible repeat (first | refine blk_drewN ?_ _ | refine blk_drew ?_ | refine blk_alloc ?_ _)); refine blk_put (cs := #[.int .i64 3, .bool false, .int .u64 0, .int .i64 0]) ?_ 1 _ rfl; (with_reducible repeat (first | refine blk_drewN ?_ _ | refine blk_drew ?_ | refine blk_alloc ?_ _)); refine blk_put (cs := #[.int .i64 0, .bool false, .int .u64 0, .int .i64 0]) ?_ 0 _ rfl; (with_reducible repeat (first | refine blk_drewN ?_ _ | refine blk_drew ?_ | refine blk_alloc ?_ _)); exact BK345.out) Try.underlying34 rfl (by kernel_rfl)) rfl ?_
            exact ⟨by first | rfl | (simp; done) | (simp [errW_none, errW_some] <;> rfl) | (simp [*, errW_none, errW_some] <;> rfl) | (simp [bne, List.isEmpty_iff]; done) | (rw [Bool.eq_iff_iff]; simp), by repeat (first | (with_reducible first | exact HB.out | apply below_alloc | apply pw_below_drewN | apply below_drew1 | refine below_set ?_ GE345.out) | exact HB.out)⟩
          · replace c12 := Bool.eq_false_iff.mpr c12
            subst c12
            have H1 : (if (wrap64 (Go.bits .and .u64 (a0 / 4503599627370496) 2047)) = 0 then (some (4, ((a0 / 9223372036854775808) == 1), (Go.bits .and .u64 a0 4503599627370495), (-1074))) else (some (4, ((a0 / 9223372036854775808) == 1), Go.bits .or .u64 (Go.bits .and .u64 a0 4503599627370495) 4503599627370496, wrap64 ((wrap64 (Go.bits .and .u64 (a0 / 4503599627370496) 2047)) - 1075)))) = some (r1, r2, r3, r4) := by rw [if_neg (show ¬ (false = true) by decide)] at H; exact H
            clear H
            have H := H1
            clear H1
            by_cases c14 : (wrap64 (Go.bits .and .u64 (a0 / 4503599627370496) 2047)) = 0
            · rw [if_pos c14] at H
              have c14b0 : ((wrap64 (Go.bits .and .u64 (a0 / 4503599627370496) 2047)) == 0) = true := beq_iff_eq.mpr c14
              have c14b1 : ((wrap64 (Go.bits .and .u64 (a0 / 4503599627370496) 2047)) != 0) = false := bne_eq_false_iff_eq.mpr c14
              clear c14
              simp only [Option.some.injEq, Prod.mk.injEq] at H
              obtain ⟨rfl, rfl, rfl, rfl⟩ := H
              have hcz15_0 : wc.cell? ⟨gb345, 0, none⟩ = some (.int .i64 0) := (blk_cell BK345.out 0).trans rfl
              have hcz15_1 : wc.cell? ⟨gb345, 1, none⟩ = some (.bool false) := (blk_cell BK345.out 1).trans rfl
              have hcz15_2 : wc.cell? ⟨gb345, 2, none⟩ = some (.int .u64 0) := (blk_cell BK345.out 2).trans rfl
              have hcz15_3 : wc.cell? ⟨gb345, 3, none⟩ = some (.int .i64 0) := (blk_cell BK345.out 3).trans rfl
              have hfz15_0 := blk_frozen BK345.out 0
              have hfz15_1 := blk_frozen BK345.out 1
              have hfz15_2 := blk_frozen BK345.out 2
              have hfz15_3 := blk_frozen BK345.out 3
              go_wp2
              refine bodyPost_ret (results_cell_row rfl _ _ gb345 34 #[.int .i64 4, .bool ((a0 / 9223372036854775808) == 1), .int .u64 (Go.bits .and .u64 a0 4503599627370495), .int .i64 (-1074)] (0, 0) _ rfl (by (with_reducible repeat (first | refine blk_drewN ?_ _ | refine blk_drew ?_ | refine blk_alloc ?_ _)); refine blk_put (cs := #[.int .i64 4, .bool ((a0 / 9223372036854775808) == 1), .int .u64 (Go.bits .and .u64 a0 4503599627370495), .int .i64 0]) ?_ 3 _ rfl; (with_reducible repeat (first | refine blk_drewN ?_ _ | refine blk_drew ?_ | refine blk_alloc ?_ _)); refine blk_put (cs := #[.int .i64 4, .bool ((a0 / 9223372036854775808) == 1), .int .u64 0, .int .i64 0]) ?_ 2 _ rfl; (with_reducible repeat (first | refine blk_drewN ?_ _ | refine blk_drew ?_ | refine blk_alloc ?_ _)); refine blk_put (cs := #[.int .i64 4, .bool false, .int .u64 0, .int .i64 0]) ?_ 1 _ rfl; (with_reducible repeat (first | refine blk_drewN ?_ _ | refine blk_drew ?_ | refine blk_alloc ?_ _)); refine blk_put (cs := #[.int .i64 0, .bool false, .int .u64 0, .int .i64 0]) ?_ 0 _ rfl; (with_reducible repeat (first | refine blk_drewN ?_ _ | refine blk_drew ?_ | refine blk_alloc ?_ _)); exact BK345.out) Try.underlying34 rfl (by kernel_rfl)) rfl ?_
              exact ⟨by first | rfl | (simp; done) | (simp [errW_none, errW_some] <;> rfl) | (simp [*, errW_none, errW_some] <;> rfl) | (simp [bne, List.isEmpty_iff]; done) | (rw [Bool.eq_iff_iff]; simp), by repeat (first | (with_reducible first | exact HB.out | apply below_alloc | apply pw_below_drewN | apply below_drew1 | refine below_set ?_ GE345.out) | exact HB.out)⟩
            · rw [if_neg c14] at H
              have c14b0 : ((wrap64 (Go.bits .and .u64 (a0 / 4503599627370496) 2047)) == 0) = false := beq_eq_false_iff_ne.mpr c14
              have c14b1 : ((wrap64 (Go.bits .and .u64 (a0 / 4503599627370496) 2047)) != 0) = true := bne_iff_ne.mpr c14
              simp only [Option.some.injEq, Prod.mk.injEq] at H
              obtain ⟨rfl, rfl, rfl, rfl⟩ := H
              have hcz16_0 : wc.cell? ⟨gb345, 0, none⟩ = some (.int .i64 0) := (blk_cell BK345.out 0).trans rfl
              have hcz16_1 : wc.cell? ⟨gb345, 1, none⟩ = some (.bool false) := (blk_cell BK345.out 1).trans rfl
              have hcz16_2 : wc.cell? ⟨gb345, 2, none⟩ = some (.int .u64 0) := (blk_cell BK345.out 2).trans rfl
              have hcz16_3 : wc.cell? ⟨gb345, 3, none⟩ = some (.int .i64 0) := (blk_cell BK345.out 3).trans rfl
              have hfz16_0 := blk_frozen BK345.out 0
              have hfz16_1 := blk_frozen BK345.out 1
              have hfz16_2 := blk_frozen BK345.out 2
              have hfz16_3 := blk_frozen BK345.out 3
              go_wp2
              refine bodyPost_ret (results_cell_row rfl _ _ gb345 34 #[.int .i64 4, .bool ((a0 / 9223372036854775808) == 1), .int .u64 (Go.bits .or .u64 (Go.bits .and .u64 a0 4503599627370495) 4503599627370496), .int .i64 (wrap64 ((wrap64 (Go.bits .and .u64 (a0 / 4503599627370496) 2047)) - 1075))] (0, 0) _ rfl (by (with_reducible repeat (first | refine blk_drewN ?_ _ | refine blk_drew ?_ | refine blk_alloc ?_ _)); refine blk_put (cs := #[.int .i64 4, .bool ((a0 / 9223372036854775808) == 1), .int .u64 (Go.bits .or .u64 (Go.bits .and .u64 a0 4503599627370495) 4503599627370496), .int .i64 0]) ?_ 3 _ rfl; (with_reducible repeat (first | refine blk_drewN ?_ _ | refine blk_drew ?_ | refine blk_alloc ?_ _)); refine blk_put (cs := #[.int .i64 4, .bool ((a0 / 9223372036854775808) == 1), .int .u64 0, .int .i64 0]) ?_ 2 _ rfl; (with_reducible repeat (first | refine blk_drewN ?_ _ | refine blk_drew ?_ | refine blk_alloc ?_ _)); refine blk_put (cs := #[.int .i64 4, .bool false, .int .u64 0, .int .i64 0]) ?_ 1 _ rfl; (with_reducible repeat (first | refine blk_drewN ?_ _ | refine blk_drew ?_ | refine blk_alloc ?_ _)); refine blk_put (cs := #[.int .i64 0, .bool false, .int .u64 0, .int .i64 0]) ?_ 0 _ rfl; (with_reducible repeat (first | refine blk_drewN ?_ _ | refine blk_drew ?_ | refine blk_alloc ?_ _)); exact BK345.out) Try.underlying34 rfl (by kernel_rfl)) rfl ?_
              exact ⟨by first | rfl | (simp; done) | (simp [errW_none, errW_some] <;> rfl) | (simp [*, errW_none, errW_some] <;> rfl) | (simp [bne, List.isEmpty_iff]; done) | (rw [Bool.eq_iff_iff]; simp), by repeat (first | (with_reducible first | exact HB.out | apply below_alloc | apply pw_below_drewN | apply below_drew1 | refine below_set ?_ GE345.out) | exact HB.out)⟩
def impl_Truthy.f (k : Nat) (a0 : Int) : Option (Bool) := (impl_PartsOfNumber.f k a0).bind fun bt347 => (if bt347.1 = 2 then (some true) else (some (bt347.1 == 4)))
theorem impl_Truthy.mono : ∀ a0 k, LeO (impl_Truthy.f k a0) (impl_Truthy.f (k + 1) a0) := by
  intro a0 k
  unfold impl_Truthy.f
  repeat' first
      | (with_reducible exact impl_PartsOfNumber.mono _ _)
      | (with_reducible exact LeO.refl _)
      | (with_reducible exact LeO.none _)
      | (with_reducible refine LeO.ite ?_ ?_)
      | (with_reducible refine LeO.bind ?_ (fun _ => ?_))
      | exact impl_PartsOfNumber.mono _ _
      | exact LeO.none _
      | refine LeO.ite ?_ ?_
      | refine LeO.bind ?_ (fun _ => ?_)
set_option maxHeartbeats 8000000 in
set_option maxRecDepth 100000 in
theorem impl_Truthy.calls (k : Nat) (a0 : Int) (r : Bool) (w : World) (h : impl_Truthy.f k a0 = some r) :
    Calls Try.prog 56 #[.int .u64 a0] w fun e w' => e = .returned (.bool r) ∧ Below w.heap.size w w' := by
  have HB := Aside0.mk (Below.refl w.heap.size w)
  have H : ((impl_PartsOfNumber.f k a0).bind fun bt347 => (if bt347.1 = 2 then (some true) else (some (bt347.1 == 4)))) = some r := h
  clear h
  replace H := Option.bind_eq_some_iff.mp H
  obtain ⟨⟨t347, t348, t349, t350⟩, A20, H⟩ := H
  replace H : (if t347 = 2 then (some true) else (some (t347 == 4))) = some r := H
  have A2 := Aside0.mk A20
  clear A20
  by_cases c3 : t347 = 2
  · rw [if_pos c3] at H
    have c3b0 : (t347 == 2) = true := beq_iff_eq.mpr c3
    have c3b1 : (t347 != 2) = false := bne_eq_false_iff_eq.mpr c3
    clear c3
    obtain rfl := Option.some.inj H
    go_enter Try.func56, Try.ntmps56
    go_wp2_with (first | ((with_reducible refine gate_callee (f := 78) rfl ?_); refine goesL_ (some 5) rfl rfl Try.func78 (by kernel_rfl) rfl #[.int .u64 a0] rfl (by (try simp only [List.map_toArray, List.map_cons, List.map_nil]); first | done | rfl | (simp only [List.length_drop, List.length_take]; rfl)) ?_; (with_reducible refine (impl_PartsOfNumber.calls k a0 t347 t348 t349 t350 _ A2.out).mono ?_); rintro e w4 ⟨rfl, hb⟩; refine ⟨_, rfl, ?_⟩; have n0_ := Aside0.mk (below_step (by repeat (first | (with_reducible first | exact HB.out | apply below_alloc | apply pw_below_drewN | apply below_drew1) | exact HB.out)) hb); clear HB; have HB := n0_; clear n0_; (try clear hb); (try clear hb2); (try clear hk); (try clear hi)))
    go_ret
    exact ⟨by first | rfl | (simp; done) | (simp [errW_none, errW_some] <;> rfl) | (simp [*, errW_none, errW_some] <;> rfl) | (simp [bne, List.isEmpty_iff]; done) | (rw [Bool.eq_iff_iff]; simp), by repeat (first | (with_reducible first | exact HB.out | apply below_alloc | apply pw_below_drewN | apply below_drew1) | exact HB.out)⟩
  · rw [if_neg c3] at H
    have c3b0 : (t347 == 2) = false := beq_eq_false_iff_ne.mpr c3
    have c3b1 : (t347 != 2) = true := bne_iff_ne.mpr c3
    obtain rfl := Option.some.inj H
    go_enter Try.func56, Try.ntmps56
    go_wp2_with (first | ((with_reducible refine gate_callee (f := 78) rfl ?_); refine goesL_ (some 5) rfl rfl Try.func78 (by kernel_rfl) rfl #[.int .u64 a0] rfl (by (try simp only [List.map_toArray, List.map_cons, List.map_nil]); first | done | rfl | (simp only [List.length_drop, List.length_take]; rfl)) ?_; (with_reducible refine (impl_PartsOfNumber.calls k a0 t347 t348 t349 t350 _ A2.out).mono ?_); rintro e w5 ⟨rfl, hb⟩; refine ⟨_, rfl, ?_⟩; have n0_ := Aside0.mk (below_step (by repeat (first | (with_reducible first | exact HB.out | apply below_alloc | apply pw_below_drewN | apply below_drew1) | exact HB.out)) hb); clear HB; have HB := n0_; clear n0_; (try clear hb); (try clear hb2); (try clear hk); (try clear hi)))
    go_ret
    exact ⟨by first | rfl | (simp; done) | (simp [errW_none, errW_some] <;> rfl) | (simp [*, errW_none, errW_some] <;> rfl) | (simp [bne, List.isEmpty_iff]; done) | (rw [Bool.eq_iff_iff]; simp), by repeat (first | (with_reducible first | exact HB.out | apply below_alloc | apply pw_below_drewN | apply below_drew1) | exact HB.out)⟩
def impl_IsTrue.f (k : Nat) (a0_0 : Int) (a0_1 : Int) (a0_2 : ByteArray) (a0_3 : Int) : Option (Bool) := if a0_0 = 0 then (some false) else (if a0_0 = 1 then (some (a0_1 == 1)) else (if a0_0 = 3 then (some (a0_2.toList != ([] : List UInt8))) else (if a0_0 = 2 then ((impl_Truthy.f k a0_1).bind fun t352 => (some t352)) else (some true))))
theorem impl_IsTrue.mono : ∀ a0 a1 a2 a3 k, LeO (impl_IsTrue.f k a0 a1 a2 a3) (impl_IsTrue.f (k + 1) a0 a1 a2 a3) := by
  intro a0 a1 a2 a3 k
  unfold impl_IsTrue.f
  repeat' first
      | (with_reducible exact impl_Truthy.mono _ _)
      | (with_reducible exact LeO.refl _)
      | (with_reducible exact LeO.none _)
      | (with_reducible refine LeO.ite ?_ ?_)
      | (with_reducible refine LeO.bind ?_ (fun _ => ?_))
      | exact impl_Truthy.mono _ _
      | exact LeO.none _
      | refine LeO.ite ?_ ?_
      | refine LeO.bind ?_ (fun _ => ?_)
set_option maxHeartbeats 8000000 in
set_option maxRecDepth 100000 in
theorem impl_IsTrue.calls (k : Nat) (a0_0 : Int) (a0_1 : Int) (a0_2 : ByteArray) (a0_3 : Int) (r : Bool) (w : World) (h : impl_IsTrue.f k a0_0 a0_1 a0_2 a0_3 = some r) :
    Calls Try.prog 24 #[.agg #[.int .i64 a0_0, .int .u64 a0_1, .string a0_2, .int .i64 a0_3]] w fun e w' => e = .returned (.bool r) ∧ Below w.heap.size w w' := by
  have hu37 := Try.underlying37
  have HB := Aside0.mk (Below.refl w.heap.size w)
  have H : (if a0_0 = 0 then (some false) else (if a0_0 = 1 then (some (a0_1 == 1)) else (if a0_0 = 3 then (some (a0_2.toList != ([] : List UInt8))) else (if a0_0 = 2 then ((impl_Truthy.f k a0_1).bind fun t352 => (some t352)) else (some true))))) = some r := h
  clear h
  by_cases c2 : a0_0 = 0
  · rw [if_pos c2] at H
    have c2b0 : (a0_0 == 0) = true := beq_iff_eq.mpr c2
    have c2b1 : (a0_0 != 0) = false := bne_eq_false_iff_eq.mpr c2
    clear c2
    obtain rfl := Option.some.inj H
    go_enter Try.func24, Try.ntmps24
    go_wp2_with (first | ((with_reducible refine gate_dst (N := 1) rfl ?_); refine box_event ?hg (N := 1) ?hd (cs := #[.int .i64 a0_0, .int .u64 a0_1, .string a0_2, .int .i64 a0_3]) (t := 37) ?hr ?_; (case hd => rfl); (case hg => rfl); (case hr => first | (go_simp; done) | (go_simp; rfl)); intro gb351 hg w3 hbox hb; have n0_ := Aside0.mk (below_step (by repeat (first | (with_reducible first | exact HB.out | apply below_alloc | apply pw_below_drewN | apply below_drew1) | exact HB.out)) hb); have n1_ := Aside0.mk (hbox); have n2_ := Aside0.mk ((by rw [hg]; exact (below_size (by repeat (first | (with_reducible first | exact HB.out | apply below_alloc | apply pw_below_drewN | apply below_drew1) | exact HB.out))) : w.heap.size ≤ gb351)); have n3_ := Aside0.mk ((by rw [hg]; exact (below_size (by repeat (first | (with_reducible first | exact HB.out | apply below_alloc | apply pw_below_drewN | apply below_drew1) | exact HB.out))) : w.heap.size ≤ gb351)); clear HB; have HB := n0_; have BK351 := n1_; have GW351 := n2_; have GE351 := n3_; clear n0_ n1_ n2_ n3_; clear hb hbox hg; have hcz4_0 : w3.cell? ⟨gb351, 0, none⟩ = some (.int .i64 a0_0) := (blk_cell BK351.out 0).trans rfl; have hcz4_1 : w3.cell? ⟨gb351, 1, none⟩ = some (.int .u64 a0_1) := (blk_cell BK351.out 1).trans rfl; have hcz4_2 : w3.cell? ⟨gb351, 2, none⟩ = some (.string a0_2) := (blk_cell BK351.out 2).trans rfl; have hcz4_3 : w3.cell? ⟨gb351, 3, none⟩ = some (.int .i64 a0_3) := (blk_cell BK351.out 3).trans rfl; have hfz4_0 := blk_frozen BK351.out 0; have hfz4_1 := blk_frozen BK351.out 1; have hfz4_2 := blk_frozen BK351.out 2; have hfz4_3 := blk_frozen BK351.out 3))
    go_ret
    exact ⟨by first | rfl | (simp; done) | (simp [errW_none, errW_some] <;> rfl) | (simp [*, errW_none, errW_some] <;> rfl) | (simp [bne, List.isEmpty_iff]; done) | (rw [Bool.eq_iff_iff]; simp), by repeat (first | (with_reducible first | exact HB.out | apply below_alloc | apply pw_below_drewN | apply below_drew1 | refine below_set ?_ GE351.out) | exact HB.out)⟩
  · rw [if_neg c2] at H
    have c2b0 : (a0_0 == 0) = false := beq_eq_false_iff_ne.mpr c2
    have c2b1 : (a0_0 != 0) = true := bne_iff_ne.mpr c2
    by_cases c5 : a0_0 = 1
    · rw [if_pos c5] at H
      have c5b0 : (a0_0 == 1) = true := beq_iff_eq.mpr c5
      have c5b1 : (a0_0 != 1) = false := bne_eq_false_iff_eq.mpr c5
      clear c5
      obtain rfl := Option.some.inj H
      go_enter Try.func24, Try.ntmps24
      go_wp2_with (first | ((with_reducible refine gate_dst (N := 1) rfl ?_); refine box_event ?hg (N := 1) ?hd (cs := #[.int .i64 a0_0, .int .u64 a0_1, .string a0_2, .int .i64 a0_3]) (t := 37) ?hr ?_; (case hd => rfl); (case hg => rfl); (case hr => first | (go_simp; done) | (go_simp; rfl)); intro gb351 hg w6 hbox hb; have n0_ := Aside0.mk (below_step (by repeat (first | (with_reducible first | exact HB.out | apply below_alloc | apply pw_below_drewN | apply below_drew1) | exact HB.out)) hb); have n1_ := Aside0.mk (hbox); have n2_ := Aside0.mk ((by rw [hg]; exact (below_size (by repeat (first | (with_reducible first | exact HB.out | apply below_alloc | apply pw_below_drewN | apply below_drew1) | exact HB.out))) : w.heap.size ≤ gb351)); have n3_ := Aside0.mk ((by rw [hg]; exact (below_size (by repeat (first | (with_reducible first | exact HB.out | apply below_alloc | apply pw_below_drewN | apply below_drew1) | exact HB.out))) : w.heap.size ≤ gb351)); clear HB; have HB := n0_; have BK351 := n1_; have GW351 := n2_; have GE351 := n3_; clear n0_ n1_ n2_ n3_; clear hb hbox hg; have hcz7_0 : w6.cell? ⟨gb351, 0, none⟩ = some (.int .i64 a0_0) := (blk_cell BK351.out 0).trans rfl; have hcz7_1 : w6.cell? ⟨gb351, 1, none⟩ = some (.int .u64 a0_1) := (blk_cell BK351.out 1).trans rfl; have hcz7_2 : w6.cell? ⟨gb351, 2, none⟩ = some (.string a0_2) := (blk_cell BK351.out 2).trans rfl; have hcz7_3 : w6.cell? ⟨gb351, 3, none⟩ = some (.int .i64 a0_3) := (blk_cell BK351.out 3).trans rfl; have hfz7_0 := blk_frozen BK351.out 0; have hfz7_1 := blk_frozen BK351.out 1; have hfz7_2 := blk_frozen BK351.out 2; have hfz7_3 := blk_frozen BK351.out 3))
      go_ret
      exact ⟨by first | rfl | (simp; done) | (simp [errW_none, errW_some] <;> rfl) | (simp [*, errW_none, errW_some] <;> rfl) | (simp [bne, List.isEmpty_iff]; done) | (rw [Bool.eq_iff_iff]; simp), by repeat (first | (with_reducible first | exact HB.out | apply below_alloc | apply pw_below_drewN | apply below_drew1 | refine below_set ?_ GE351.out) | exact HB.out)⟩
    · rw [if_neg c5] at H
      have c5b0 : (a0_0 == 1) = false := beq_eq_false_iff_ne.mpr c5
      have c5b1 : (a0_0 != 1) = true := bne_iff_ne.mpr c5
      by_cases c8 : a0_0 = 3
      · rw [if_pos c8] at H
        have c8b0 : (a0_0 == 3) = true := beq_iff_eq.mpr c8
        have c8b1 : (a0_0 != 3) = false := bne_eq_false_iff_eq.mpr c8
        clear c8
        obtain rfl := Option.some.inj H
        go_enter Try.func24, Try.ntmps24
        go_wp2_with (first | ((with_reducible refine gate_dst (N := 1) rfl ?_); refine box_event ?hg (N := 1) ?hd (cs := #[.int .i64 a0_0, .int .u64 a0_1, .string a0_2, .int .i64 a0_3]) (t := 37) ?hr ?_; (case hd => rfl); (case hg => rfl); (case hr => first | (go_simp; done) | (go_simp; rfl)); intro gb351 hg w9 hbox hb; have n0_ := Aside0.mk (below_step (by repeat (first | (with_reducible first | exact HB.out | apply below_alloc | apply pw_below_drewN | apply below_drew1) | exact HB.out)) hb); have n1_ := Aside0.mk (hbox); have n2_ := Aside0.mk ((by rw [hg]; exact (below_size (by repeat (first | (with_reducible first | exact HB.out | apply below_alloc | apply pw_below_drewN | apply below_drew1) | exact HB.out))) : w.heap.size ≤ gb351)); have n3_ := Aside0.mk ((by rw [hg]; exact (below_size (by repeat (first | (with_reducible first | exact HB.out | apply below_alloc | apply pw_below_drewN | apply below_drew1) | exact HB.out))) : w.heap.size ≤ gb351)); clear HB; have HB := n0_; have BK351 := n1_; have GW351 := n2_; have GE351 := n3_; clear n0_ n1_ n2_ n3_; clear hb hbox hg; have hcz10_0 : w9.cell? ⟨gb351, 0, none⟩ = some (.int .i64 a0_0) := (blk_cell BK351.out 0).trans rfl; have hcz10_1 : w9.cell? ⟨gb351, 1, none⟩ = some (.int .u64 a0_1) := (blk_cell BK351.out 1).trans rfl; have hcz10_2 : w9.cell? ⟨gb351, 2, none⟩ = some (.string a0_2) := (blk_cell BK351.out 2).trans rfl; have hcz10_3 : w9.cell? ⟨gb351, 3, none⟩ = some (.int .i64 a0_3) := (blk_cell BK351.out 3).trans rfl; have hfz10_0 := blk_frozen BK351.out 0; have hfz10_1 := blk_frozen BK351.out 1; have hfz10_2 := blk_frozen BK351.out 2; have hfz10_3 := blk_frozen BK351.out 3))
        go_ret
        exact ⟨by first | rfl | (simp; done) | (simp [errW_none, errW_some] <;> rfl) | (simp [*, errW_none, errW_some] <;> rfl) | (simp [bne, List.isEmpty_iff]; done) | (rw [Bool.eq_iff_iff]; simp), by repeat (first | (with_reducible first | exact HB.out | apply below_alloc | apply pw_below_drewN | apply below_drew1 | refine below_set ?_ GE351.out) | exact HB.out)⟩
      · rw [if_neg c8] at H
        have c8b0 : (a0_0 == 3) = false := beq_eq_false_iff_ne.mpr c8
        have c8b1 : (a0_0 != 3) = true := bne_iff_ne.mpr c8
        by_cases c11 : a0_0 = 2
        · rw [if_pos c11] at H
          have c11b0 : (a0_0 == 2) = true := beq_iff_eq.mpr c11
          have c11b1 : (a0_0 != 2) = false := bne_eq_false_iff_eq.mpr c11
          clear c11
          replace H := Option.bind_eq_some_iff.mp H
          obtain ⟨t352, A120, H⟩ := H
          replace H : (some t352) = some r := H
          have A12 := Aside0.mk A120
          clear A120
          obtain rfl := Option.some.inj H
          go_enter Try.func24, Try.ntmps24
          go_wp2_with (first | ((with_reducible refine gate_dst (N := 1) rfl ?_); refine box_event ?hg (N := 1) ?hd (cs := #[.int .i64 a0_0, .int .u64 a0_1, .string a0_2, .int .i64 a0_3]) (t := 37) ?hr ?_; (case hd => rfl); (case hg => rfl); (case hr => first | (go_simp; done) | (go_simp; rfl)); intro gb351 hg w13 hbox hb; have n0_ := Aside0.mk (below_step (by repeat (first | (with_reducible first | exact HB.out | apply below_alloc | apply pw_below_drewN | apply below_drew1) | exact HB.out)) hb); have n1_ := Aside0.mk (hbox); have n2_ := Aside0.mk ((by rw [hg]; exact (below_size (by repeat (first | (with_reducible first | exact HB.out | apply below_alloc | apply pw_below_drewN | apply below_drew1) | exact HB.out))) : w.heap.size ≤ gb351)); have n3_ := Aside0.mk ((by rw [hg]; exact (below_size (by repeat (first | (with_reducible first | exact HB.out | apply below_alloc | apply pw_below_drewN | apply below_drew1) | exact HB.out))) : w.heap.size ≤ gb351)); clear HB; have HB := n0_; have BK351 := n1_; have GW351 := n2_; have GE351 := n3_; clear n0_ n1_ n2_ n3_; clear hb hbox hg; have hcz14_0 : w13.cell? ⟨gb351, 0, none⟩ = some (.int .i64 a0_0) := (blk_cell BK351.out 0).trans rfl; have hcz14_1 : w13.cell? ⟨gb351, 1, none⟩ = some (.int .u64 a0_1) := (blk_cell BK351.out 1).trans rfl; have hcz14_2 : w13.cell? ⟨gb351, 2, none⟩ = some (.string a0_2) := (blk_cell BK351.out 2).trans rfl; have hcz14_3 : w13.cell? ⟨gb351, 3, none⟩ = some (.int .i64 a0_3) := (blk_cell BK351.out 3).trans rfl; have hfz14_0 := blk_frozen BK351.out 0; have hfz14_1 := blk_frozen BK351.out 1; have hfz14_2 := blk_frozen BK351.out 2; have hfz14_3 := blk_frozen BK351.out 3) | ((with_reducible refine gate_callee (f := 56) rfl ?_); refine goesL_ (some 21) rfl rfl Try.func56 (by kernel_rfl) rfl #[.int .u64 a0_1] rfl (by (try simp only [List.map_toArray, List.map_cons, List.map_nil]); first | done | rfl | (simp only [List.length_drop, List.length_take]; rfl)) ?_; (with_reducible refine (impl_Truthy.calls k a0_1 t352 _ A12.out).mono ?_); rintro e w15 ⟨rfl, hb⟩; refine ⟨_, rfl, ?_⟩; have n0_ := Aside0.mk (blk_below (g := gb351) (o := .cells #[.int .i64 a0_0, .int .u64 a0_1, .string a0_2, .int .i64 a0_3] 37 (0, 0)) (by (with_reducible repeat (first | refine blk_drewN ?_ _ | refine blk_drew ?_ | refine blk_alloc ?_ _)); exact BK351.out) hb); have n1_ := Aside0.mk (below_step (by repeat (first | (with_reducible first | exact HB.out | apply below_alloc | apply pw_below_drewN | apply below_drew1 | refine below_set ?_ GE351.out) | exact HB.out)) hb); clear BK351; clear HB; have BK351 := n0_; have HB := n1_; clear n0_ n1_; (try clear hb); (try clear hb2); (try clear hk); (try clear hi)))
          go_ret
          exact ⟨by first | rfl | (simp; done) | (simp [errW_none, errW_some] <;> rfl) | (simp [*, errW_none, errW_some] <;> rfl) | (simp [bne, List.isEmpty_iff]; done) | (rw [Bool.eq_iff_iff]; simp), by repeat (first | (with_reducible first | exact HB.out | apply below_alloc | apply pw_below_drewN | apply below_drew1 | refine below_set ?_ GE351.out) | exact HB.out)⟩
        · rw [if_neg c11] at H
          have c11b0 : (a0_0 == 2) = false := beq_eq_false_iff_ne.mpr c11
          have c11b1 : (a0_0 != 2) = true := bne_iff_ne.mpr c11
          obtain rfl := Option.some.inj H
          go_enter Try.func24, Try.ntmps24
          go_wp2_with (first | ((with_reducible refine gate_dst (N := 1) rfl ?_); refine box_event ?hg (N := 1) ?hd (cs := #[.int .i64 a0_0, .int .u64 a0_1, .string a0_2, .int .i64 a0_3]) (t := 37) ?hr ?_; (case hd => rfl); (case hg => rfl); (case hr => first | (go_simp; done) | (go_simp; rfl)); intro gb351 hg w16 hbox hb; have n0_ := Aside0.mk (below_step (by repeat (first | (with_reducible first | exact HB.out | apply below_alloc | apply pw_below_drewN | apply below_drew1) | exact HB.out)) hb); have n1_ := Aside0.mk (hbox); have n2_ := Aside0.mk ((by rw [hg]; exact (below_size (by repeat (first | (with_reducible first | exact HB.out | apply below_alloc | apply pw_below_drewN | apply below_drew1) | exact HB.out))) : w.heap.size ≤ gb351)); have n3_ := Aside0.mk ((by rw [hg]; exact (below_size (by repeat (first | (with_reducible first | exact HB.out | apply below_alloc | apply pw_below_drewN | apply below_drew1) | exact HB.out))) : w.heap.size ≤ gb351)); clear HB; have HB := n0_; have BK351 := n1_; have GW351 := n2_; have GE351 := n3_; clear n0_ n1_ n2_ n3_; clear hb hbox hg; have hcz17_0 : w16.cell? ⟨gb351, 0, none⟩ = some (.int .i64 a0_0) := (blk_cell BK351.out 0).trans rfl; have hcz17_1 : w16.cell? ⟨gb351, 1, none⟩ = some (.int .u64 a0_1) := (blk_cell BK351.out 1).trans rfl; have hcz17_2 : w16.cell? ⟨gb351, 2, none⟩ = some (.string a0_2) := (blk_cell BK351.out 2).trans rfl; have hcz17_3 : w16.cell? ⟨gb351, 3, none⟩ = some (.int .i64 a0_3) := (blk_cell BK351.out 3).trans rfl; have hfz17_0 := blk_frozen BK351.out 0; have hfz17_1 := blk_frozen BK351.out 1; have hfz17_2 := blk_frozen BK351.out 2; have hfz17_3 := blk_frozen BK351.out 3))
          go_ret
          exact ⟨by first | rfl | (simp; done) | (simp [errW_none, errW_some] <;> rfl) | (simp [*, errW_none, errW_some] <;> rfl) | (simp [bne, List.isEmpty_iff]; done) | (rw [Bool.eq_iff_iff]; simp), by repeat (first | (with_reducible first | exact HB.out | apply below_alloc | apply pw_below_drewN | apply below_drew1 | refine below_set ?_ GE351.out) | exact HB.out)⟩
-- NOT PRINTED: function 5 (laws_FnCompares)
end Go.Proofs.Ytokhgodcamhibaa.QFnCompares
end
section
namespace Go.Proofs.Ytokhgodcamhibaa.Cmp
open Go.RowKit Go.Proofs.YtokhgodcamhibaaW.PrintWords Go.Proofs.YtokhgodcamhibaaW.PrintMore Go.Proofs.Ytokhgodcamhibaa.Num Go.Proofs.Ytokhgodcamhibaa.Dob Go.Proofs.Ytokhgodcamhibaa.QFnExactDoBinary Go.Proofs.Ytokhgodcamhibaa.QFnCompares Ieee
set_option linter.unusedVariables false
set_option linter.unusedSimpArgs false
theorem ok_same (a b : Int) (s : ByteArray) (c : Int) : spec_ValueOk.f a b s c = impl_ValueOk.f a b s c := by
  unfold spec_ValueOk.f impl_ValueOk.f
  by_cases a0 : a = 0
  · by_cases b0 : b = 0 <;> by_cases s0 : s.toList = [] <;> simp [a0, b0, s0]
  · by_cases a1 : a = 1
    · by_cases b0 : b ≤ 1 <;> by_cases s0 : s.toList = [] <;> simp [a1, b0, s0]
    · by_cases a2 : a = 2
      · by_cases s0 : s.toList = [] <;> simp [a2, s0]
      · by_cases a3 : a = 3
        · by_cases b0 : b = 0 <;> by_cases c0 : c = 0 <;> by_cases s0 : (s.size : Int) ≤ 200 <;> simp [a3, b0, c0, s0]
        · by_cases a4 : a = 4
          · by_cases b0 : b = 0 <;> by_cases s0 : s.toList = [] <;> simp [a4, b0, s0]
          · simp [a0, a1, a2, a3, a4]
theorem ok_some (a b : Int) (s : ByteArray) (c : Int) : ∃ v, spec_ValueOk.f a b s c = some v := by
  unfold spec_ValueOk.f
  repeat' split
  all_goals exact ⟨_, rfl⟩
theorem ok_text {n : Int} {t : ByteArray} {r : Int} (h : spec_ValueOk.f 3 n t r = some true) : n = 0 ∧ r = 0 := by
  unfold spec_ValueOk.f at h
  rw [if_neg (by omega), if_neg (by omega), if_neg (by omega), if_pos rfl] at h
  by_cases a : n = 0
  · by_cases b : r = 0
    · exact ⟨a, b⟩
    · rw [if_pos a, if_neg b] at h; cases h
  · rw [if_neg a] at h; cases h
theorem less_total : ∀ a b : List UInt8, (!Op.bytesLess b a && !(b == a)) = Op.bytesLess a b
  | [], [] => by simp [Op.bytesLess]
  | [], b :: bs => by simp [Op.bytesLess]
  | a :: as_, [] => by simp [Op.bytesLess]
  | a :: as_, b :: bs => by
    have ih := less_total as_ bs
    by_cases c : a = b
    · subst c
      simp only [Op.bytesLess, List.cons_beq_cons, beq_self_eq_true, Bool.true_and] at ih ⊢
      simpa using ih
    · have c2 : ¬ b = a := fun h => c h.symm
      have hlt : a < b ∨ b < a := by
        rcases Nat.lt_or_ge a.toNat b.toNat with h | h
        · exact .inl h
        · refine .inr (Nat.lt_of_le_of_ne h (fun e => c2 (UInt8.toNat.inj e)))
      rcases hlt with h | h
      · have h2 : ¬ b < a := fun h3 => absurd (Nat.lt_trans h h3) (Nat.lt_irrefl _)
        simp [Op.bytesLess, c, c2, h, h2]
      · have h2 : ¬ a < b := fun h3 => absurd (Nat.lt_trans h h3) (Nat.lt_irrefl _)
        simp [Op.bytesLess, c, c2, h, h2]
theorem bin_num {op k1 n1 r1 k2 n2 r2 : Int} {t1 t2 : ByteArray} (ho : 6 ≤ op ∧ op ≤ 9) (h : k1 = 2 ∧ k2 = 2) : binV op k1 n1 t1 r1 k2 n2 t2 r2 = boolV (ordV op (double.order n1.toNat n2.toNat == some .lt) (double.order n1.toNat n2.toNat == some .eq) (double.order n2.toNat n1.toNat == some .lt)) := by
  unfold binV
  rw [if_neg (by omega), if_neg (by omega), if_pos h, if_pos ho]
theorem bin_txt {op k1 n1 r1 k2 n2 r2 : Int} {t1 t2 : ByteArray} (ho : 6 ≤ op ∧ op ≤ 9) (h : k1 = 3 ∧ k2 = 3) : binV op k1 n1 t1 r1 k2 n2 t2 r2 = boolV (ordV op (Op.bytesLess t1.toList t2.toList) (t1.toList == t2.toList) (!Op.bytesLess t1.toList t2.toList && !(t1.toList == t2.toList))) := by
  unfold binV
  rw [if_neg (by omega), if_neg (by omega), if_neg (by omega), if_pos h, if_pos ho]
theorem bin_typ {op k1 n1 r1 k2 n2 r2 : Int} {t1 t2 : ByteArray} (ho : 6 ≤ op ∧ op ≤ 9) (h : ¬ (k1 = 2 ∧ k2 = 2)) (h2 : ¬ (k1 = 3 ∧ k2 = 3)) : binV op k1 n1 t1 r1 k2 n2 t2 r2 = typeV := by
  unfold binV
  rw [if_neg (by omega), if_neg (by omega), if_neg h, if_neg h2]
/-- Orders of right values. -/
theorem comp (k1 n1 r1 k2 n2 r2 : Int) (t1 t2 : ByteArray) (h1 : spec_ValueOk.f k1 n1 t1 r1 = some true) (h2 : spec_ValueOk.f k2 n2 t2 r2 = some true) :
    binV 6 k1 n1 t1 r1 k2 n2 t2 r2 = typeV ∨ ∃ l, binV 6 k1 n1 t1 r1 k2 n2 t2 r2 = boolV l ∧ binV 8 k2 n2 t2 r2 k1 n1 t1 r1 = boolV l ∧ binV 7 k1 n1 t1 r1 k2 n2 t2 r2 = boolV (l || same k1 n1 t1 r1 k2 n2 t2 r2) := by
  by_cases a : k1 = 2 ∧ k2 = 2
  · right
    rw [bin_num (by omega) a, bin_num (by omega) a, bin_num (by omega) ⟨a.2, a.1⟩]
    refine ⟨_, rfl, rfl, ?_⟩
    unfold same
    rw [if_pos a]
    rfl
  · by_cases b : k1 = 3 ∧ k2 = 3
    · right
      rw [bin_txt (by omega) b, bin_txt (by omega) b, bin_txt (by omega) ⟨b.2, b.1⟩]
      obtain ⟨rfl, rfl⟩ := b
      obtain ⟨rfl, rfl⟩ := ok_text h1
      obtain ⟨rfl, rfl⟩ := ok_text h2
      refine ⟨_, rfl, ?_, ?_⟩
      · show boolV (!Op.bytesLess t2.toList t1.toList && !(t2.toList == t1.toList)) = boolV (Op.bytesLess t1.toList t2.toList)
        rw [less_total]
      · unfold same
        rw [if_neg (by decide)]
        show boolV (Op.bytesLess t1.toList t2.toList || (t1.toList == t2.toList)) = boolV (Op.bytesLess t1.toList t2.toList || _)
        simp
    · exact .inl (bin_typ (by omega) a b)
theorem true_bool (k : Nat) (b : Bool) : impl_IsTrue.f k 1 (bn b) (⟨#[]⟩ : ByteArray) 0 = some b := by
  unfold impl_IsTrue.f
  rw [if_neg (by decide), if_pos rfl]
  cases b <;> rfl
theorem bin_same (k1 n1 r1 k2 n2 r2 : Int) (t1 t2 : ByteArray) : binV 10 k1 n1 t1 r1 k2 n2 t2 r2 = boolV (same k1 n1 t1 r1 k2 n2 t2 r2) ∧ binV 11 k1 n1 t1 r1 k2 n2 t2 r2 = boolV (!same k1 n1 t1 r1 k2 n2 t2 r2) := ⟨rfl, rfl⟩
end Go.Proofs.Ytokhgodcamhibaa.Cmp
end
section
namespace Go.Proofs.Ytokhgodcamhibaa.Steps
open Go.RowKit Go.Proofs.Ytokhgodcamhibaa Go.Proofs.YtokhgodcamhibaaW.PrintWords Go.Proofs.YtokhgodcamhibaaW.PrintLast
set_option linter.unusedVariables false
set_option autoImplicit false
variable {P : Program} {ops : Array Oper} {Q : Exit → Act → World → Prop} {md : Region.Mode} {S : World → Prop} {ds : List Nat} {T : Bool × List (List Nat × List Nat)} {B : List Nat} {oi oj : Oper} {v : Value} {fuel : Nat} {l : Array Bool} {a a' : Act} {w : World} {N M : Option Tmp}
/-- An operation that yields whatever the world is. -/
theorem pz (i k : Nat) (h : wpAnyLast P md ops Q S ds fuel (l.setIfInBounds i true) a' w) (hi : ops[i]? = some oi := by rfl) (hN : oi.dst = some k := by rfl) (hT : Aside0 (rtab md ops = T) := by assumption)
    (hc : anyT T l.toList (l.setIfInBounds i true).toList i = true := by kernel_rfl) (hQ : ∀ c a w, Q (.panic c) (a.put oi.dst v) w → Q (.panic c) a w := by exact fun _ _ _ h => h)
    (hw : Region.wanted oi (yielded ops a.tmps) = true := by rfl) (hy : ∀ w, (execOp a.eval oi).run P w = .ok (.value v) w := by intro w'; go_simp; with_reducible rfl)
    (ha : a.put (some k) v = a' := by simp only [Act.put, List.setIfInBounds_toArray, List.set_cons_zero, List.set_cons_succ, i64_w, i32_w]; rfl) : wpAnyLast P md ops Q S ds (fuel + 1) l a w :=
  pure_ (i := i) _ hi hN (any_of hT.out hc) hQ (Or.inl ⟨hw, hy⟩) ha h
/-- One that the guard leaves out. -/
theorem oz (i k : Nat) (h : wpAnyLast P md ops Q S ds fuel (l.setIfInBounds i true) a' w) (hi : ops[i]? = some oi := by rfl) (hN : oi.dst = some k := by rfl) (hT : Aside0 (rtab md ops = T) := by assumption)
    (hc : anyT T l.toList (l.setIfInBounds i true).toList i = true := by kernel_rfl) (hQ : ∀ c a w, Q (.panic c) (a.put oi.dst undef) w → Q (.panic c) a w := by exact fun _ _ _ h => h)
    (hw : Region.wanted oi (yielded ops a.tmps) = false := by rfl)
    (ha : a.put (some k) undef = a' := by simp only [Act.put, List.setIfInBounds_toArray, List.set_cons_zero, List.set_cons_succ, i64_w, i32_w]; rfl) : wpAnyLast P md ops Q S ds (fuel + 1) l a w :=
  pure_ (i := i) _ hi hN (any_of hT.out hc) hQ (Or.inr ⟨hw, rfl⟩) ha h
/-- One that reads: by what is held. -/
theorem tz (i k : Nat) (h : wpAnyLast P md ops Q S ds fuel (l.setIfInBounds i true) a' w) (hi : ops[i]? = some oi := by rfl) (hN : oi.dst = some k := by rfl) (hT : Aside0 (rtab md ops = T) := by assumption)
    (hB : Aside0 (waitsOk T.2 B = true) := by assumption) (hc : takeW T B ds l.toList (l.setIfInBounds i true).toList i = true := by kernel_rfl) (hS : S w := by assumption) (hQ : ∀ c a w, Q (.panic c) (a.put oi.dst v) w → Q (.panic c) a w := by exact fun _ _ _ h => h)
    (hw : Region.wanted oi (yielded ops a.tmps) = true := by rfl) (hy : ∀ w, S w → (execOp a.eval oi).run P w = .ok (.value v) w := by intro w' h'; (try simp only at h'); repeat (cases h' with | intro _ h' => ?_); go_simp; with_reducible rfl)
    (ha : a.put (some k) v = a' := by simp only [Act.put, List.setIfInBounds_toArray, List.set_cons_zero, List.set_cons_succ, i64_w, i32_w]; rfl) : wpAnyLast P md ops Q S ds (fuel + 1) l a w :=
  take_ (i := i) _ hi hN (take_ofW hT.out hB.out hc) hQ (Or.inl ⟨hw, hy⟩) hS ha h
/-- The one that may come up alone: it is run. -/
theorem ez (i : Nat) (N : Option Tmp) (h : ∀ K : Act → World → Prop, Shut (∀ a' w', S w' → (S w' → wpAnyLast P md ops Q S ds fuel (l.setIfInBounds i true) a' w') → K a' w') → if Region.wanted oi (yielded ops a.tmps) = true then Oper.wp P oi a w K Q else K (a.put N undef) w)
    (hi : ops[i]? = some oi := by rfl) (hN : oi.dst = N := by rfl) (hT : Aside0 (rtab md ops = T) := by assumption) (hc : (readyT T.2 l.toList == [i] && l.toList.set i true == (l.setIfInBounds i true).toList) = true := by kernel_rfl) (hd : i ∉ ds := by decide) : wpAnyLast P md ops Q S ds (fuel + 1) l a w :=
  one_ (i := i) _ hi hN (one_of hT.out hc) hd h
theorem lz (i : Nat) (N : Option Tmp) (h : ∀ K : Act → World → Prop, Shut (∀ a' w', wpAnyLast P md ops Q S ds fuel (l.setIfInBounds i true) a' w' → K a' w') → if Region.wanted oi (yielded ops a.tmps) = true then Oper.wp P oi a w K Q else K (a.put N undef) w)
    (hi : ops[i]? = some oi := by rfl) (hN : oi.dst = N := by rfl) (hT : Aside0 (rtab md ops = T) := by assumption) (hc : (readyT T.2 l.toList == [i] && l.toList.set i true == (l.setIfInBounds i true).toList) = true := by kernel_rfl) (hd : i ∈ ds := by decide) : wpAnyLast P md ops Q S ds (fuel + 1) l a w :=
  last_ (i := i) _ hi hN (one_of hT.out hc) hd h
theorem dz (h : Q .normal a w) (hT : Aside0 (rtab md ops = T) := by assumption) (hc : (readyT T.2 l.toList == []) = true := by kernel_rfl) : wpAnyLast P md ops Q S ds fuel l a w := done_ (done_of hT.out hc) h
theorem kz (N : Option Tmp) (h : wpAnyLast P md ops Q S ds fuel l a' w) (ha : a.put N v = a' := by simp only [Act.put, List.setIfInBounds_toArray, List.set_cons_zero, List.set_cons_succ, i64_w, i32_w]; rfl) : wpAnyLast P md ops Q S ds fuel l (a.put N v) w := by
  rw [ha]; exact h
/-- A call of a Go function, by its contract. -/
theorem gz {K : Act → World → Prop} {f : FuncId} {fn : Func} {ars : Array Operand} {ts : Array TypeId} (hf : P.funcs[f]? = some fn) (args : Array Value)
    (h : Calls P f args w fun e w' => ∃ v, e = .returned v ∧ K (a.put N v) w') (hname : (fn.name == "runtime.NumGoroutine") = false := by kernel_rfl) (hb : fn.body.isSome = true := by rfl)
    (hw : Region.wanted oi (yielded ops a.tmps) = true := by rfl) (hN : oi.dst = N := by rfl) (hop : oi.op = .call { callee := .value (.func f), args := ars, argTypes := ts } := by rfl)
    (hargs : ars.map a.eval = args := by (try simp only [List.map_toArray, List.map_cons, List.map_nil]); first | done | rfl | (simp only [List.length_drop, List.length_take]; rfl)) :
    if Region.wanted oi (yielded ops a.tmps) = true then Oper.wp P oi a w K Q else K (a.put N undef) w := goes_ hf hname hb args hw hN hop hargs h
theorem sz {id : Nat} (n : Nat) (S : World → Prop) (ds : List Nat) (hT : rtab .any ops = T) (hB : waitsOk T.2 B = true) (hS : S w.drew)
    (h : Aside0 (rtab .any ops = T) → Aside0 (waitsOk T.2 B = true) → S w.drew → wpAnyLast P .any ops Q S ds n (Array.replicate n false) a w.drew)
    (hm : P.follows .mixedOrders = true := by kernel_rfl) (hn : ops.size = n := by rfl) : (Code.region id ops true).wp P Q a w := start_ _ hm hn rfl hS (h ⟨hT⟩ ⟨hB⟩)
end Go.Proofs.Ytokhgodcamhibaa.Steps
end
section
namespace Go.Proofs.Ytokhgodcamhibaa.Dob
open Go.RowKit Go.Proofs.YtokhgodcamhibaaW.PrintWords Go.Proofs.YtokhgodcamhibaaW.PrintLast Go.Proofs.YtokhgodcamhibaaW.PrintMore Go.Proofs.Ytokhgodcamhibaa.Law Go.Proofs.Ytokhgodcamhibaa.Fl Go.Proofs.Ytokhgodcamhibaa.FlI Go.Proofs.Ytokhgodcamhibaa.Num Go.Proofs.Ytokhgodcamhibaa.QFnExactDoBinary Go.Proofs.Ytokhgodcamhibaa Go.Proofs.Ytokhgodcamhibaa.Steps Ieee
set_option linter.unusedVariables false
set_option linter.unusedSimpArgs false
def dob.T9 : Bool × List (List Nat × List Nat) := (true, [([], []), ([], []), ([1], [1]), ([], []), ([3], [3]), ([2, 4], [2, 4]), ([], []), ([6], [6]), ([], []), ([8], [8]), ([7, 9, 5], [7, 9]), ([], []), ([11], [11]), ([], []), ([13], [13]), ([12, 14, 10], [12, 14]), ([0, 5, 10, 15, 15], [0, 5, 10, 15]), ([16, 16, 0, 1, 2, 3, 4, 5, 6, 7, 8, 9, 10, 11, 12, 13, 14, 15, 16], [16]), ([17, 0, 1, 2, 3, 4, 5, 6, 7, 8, 9, 10, 11, 12, 13, 14, 15, 16, 17], [])])
def dob.B9 : List Nat := [0, 0, 2, 0, 8, 30, 0, 64, 0, 256, 1022, 0, 2048, 0, 8192, 32766, 65535, 131071, 262143]
theorem dob.tab9 : rtab .any (opsOf Try.f23 9) = dob.T9 := by kernel_rfl
theorem dob.bits9 : waitsOk dob.T9.2 dob.B9 = true := by kernel_rfl
set_option maxHeartbeats 8000000 in
set_option maxRecDepth 100000 in
theorem i_same_22 (op k1 n1 r1 k2 n2 r2 : Int) (t1 t2 : ByteArray) (w : World) (hn1 : 0 ≤ n1 ∧ n1 < 18446744073709551616) (hn2 : 0 ≤ n2 ∧ n2 < 18446744073709551616) (hs1 : t1.size ≤ 1048576) (hs2 : t2.size ≤ 1048576) (a0 : (k1 == 2) = true) (a1 : (k2 == 2) = true) (a2 : (k1 == 3) = false) (a3 : (k2 == 3) = false) (b0 : (op == 10) = true) (bw : impl_within.f op 6 9 = some false)
    (hres : binV op k1 n1 t1 r1 k2 n2 t2 r2 = (1, bn (same k1 n1 t1 r1 k2 n2 t2 r2), (⟨#[]⟩ : ByteArray), 0, (⟨#[]⟩ : ByteArray))) :
    Calls Try.prog 23 #[.int .i64 op, .agg #[.int .i64 k1, .int .u64 n1, .string t1, .int .i64 r1], .agg #[.int .i64 k2, .int .u64 n2, .string t2, .int .i64 r2]] w fun e w' => e = .returned (.tuple #[.agg #[.int .i64 (binV op k1 n1 t1 r1 k2 n2 t2 r2).1, .int .u64 (binV op k1 n1 t1 r1 k2 n2 t2 r2).2.1, .string (binV op k1 n1 t1 r1 k2 n2 t2 r2).2.2.1, .int .i64 (binV op k1 n1 t1 r1 k2 n2 t2 r2).2.2.2.1], .string (binV op k1 n1 t1 r1 k2 n2 t2 r2).2.2.2.2]) ∧ Below w.heap.size w w' := by
  have hu := Try.underlying37
  have HR := Aside0.mk hres; clear hres
  have M0 := Aside0.mk ((((Mem.start w).allocAt (g := w.heap.size) rfl #[.int .i64 k1, .int .u64 n1, .string t1, .int .i64 r1] 37).allocAt (g := w.heap.size + 1) (by simp) #[.int .i64 k2, .int .u64 n2, .string t2, .int .i64 r2] 37).allocAt (g := w.heap.size + 1 + 1) (by simp) #[.int .i64 0, .int .u64 0, .string (⟨#[]⟩ : ByteArray), .int .i64 0] 37)
  have za := M0.out.box (.tail _ (.tail _ (.head _))); have zb := M0.out.box (.tail _ (.head _)); have zz := M0.out.box (.head _); have fz := M0.out.free (.head _)
  go_enter Try.func23, Try.ntmps23
  go_wp2_with fail
  repeat (go_quiet (fail); go_wp2_with fail)
  refine (impl_within.calls op 6 9 false _ bw).mono ?_
  rintro e v1 ⟨rfl, hb⟩
  have M1 := Aside0.mk (M0.out.step hb.below); clear hb za zb zz fz M0
  have za := M1.out.box (.tail _ (.tail _ (.head _))); have zb := M1.out.box (.tail _ (.head _)); have zz := M1.out.box (.head _); have fz := M1.out.free (.head _)
  go_wp2_with fail
  repeat (go_quiet (fail); go_wp2_with fail)
  refine (sameI k1 n1 t1 r1 k2 n2 t2 r2 _).mono ?_
  rintro e v2 ⟨rfl, hb⟩
  have M2 := Aside0.mk (M1.out.step hb); clear hb za zb zz fz M1
  have za := M2.out.box (.tail _ (.tail _ (.head _))); have zb := M2.out.box (.tail _ (.head _)); have zz := M2.out.box (.head _); have fz := M2.out.free (.head _)
  go_wp2_with fail
  repeat (go_quiet (fail); go_wp2_with fail)
  refine (boolI _ _).mono ?_
  rintro e v3 ⟨rfl, hb⟩
  have M3 := Aside0.mk (M2.out.step hb); clear hb za zb zz fz M2
  have za := M3.out.box (.tail _ (.tail _ (.head _))); have zb := M3.out.box (.tail _ (.head _)); have zz := M3.out.box (.head _); have fz := M3.out.free (.head _)
  go_wp2
  have M9 := Aside0.mk ((((M3.out.set (A := []) 0 (.int .i64 (1)) rfl).set (A := []) 1 (.int .u64 (bn (same k1 n1 t1 r1 k2 n2 t2 r2))) rfl).set (A := []) 2 (.string ((⟨#[]⟩ : ByteArray))) rfl).set (A := []) 3 (.int .i64 (0)) rfl)
  refine bodyPost_ret (results_ct rfl _ _ (w.heap.size + 1 + 1) 37 #[.int .i64 (1), .int .u64 (bn (same k1 n1 t1 r1 k2 n2 t2 r2)), .string ((⟨#[]⟩ : ByteArray)), .int .i64 (0)] (0, 0) _ rfl (M9.out.blk (.head _)) Try.underlying37 rfl (by kernel_rfl)) rfl ?_
  exact ⟨by rw [HR.out]; rfl, M9.out.below⟩
set_option maxHeartbeats 8000000 in
set_option maxRecDepth 100000 in
theorem i_other_22 (op k1 n1 r1 k2 n2 r2 : Int) (t1 t2 : ByteArray) (w : World) (hn1 : 0 ≤ n1 ∧ n1 < 18446744073709551616) (hn2 : 0 ≤ n2 ∧ n2 < 18446744073709551616) (hs1 : t1.size ≤ 1048576) (hs2 : t2.size ≤ 1048576) (a0 : (k1 == 2) = true) (a1 : (k2 == 2) = true) (a2 : (k1 == 3) = false) (a3 : (k2 == 3) = false) (b0 : (op == 10) = false) (b1 : (op == 11) = true) (bw : impl_within.f op 6 9 = some false)
    (hres : binV op k1 n1 t1 r1 k2 n2 t2 r2 = (1, bn (!same k1 n1 t1 r1 k2 n2 t2 r2), (⟨#[]⟩ : ByteArray), 0, (⟨#[]⟩ : ByteArray))) :
    Calls Try.prog 23 #[.int .i64 op, .agg #[.int .i64 k1, .int .u64 n1, .string t1, .int .i64 r1], .agg #[.int .i64 k2, .int .u64 n2, .string t2, .int .i64 r2]] w fun e w' => e = .returned (.tuple #[.agg #[.int .i64 (binV op k1 n1 t1 r1 k2 n2 t2 r2).1, .int .u64 (binV op k1 n1 t1 r1 k2 n2 t2 r2).2.1, .string (binV op k1 n1 t1 r1 k2 n2 t2 r2).2.2.1, .int .i64 (binV op k1 n1 t1 r1 k2 n2 t2 r2).2.2.2.1], .string (binV op k1 n1 t1 r1 k2 n2 t2 r2).2.2.2.2]) ∧ Below w.heap.size w w' := by
  have hu := Try.underlying37
  have HR := Aside0.mk hres; clear hres
  have M0 := Aside0.mk ((((Mem.start w).allocAt (g := w.heap.size) rfl #[.int .i64 k1, .int .u64 n1, .string t1, .int .i64 r1] 37).allocAt (g := w.heap.size + 1) (by simp) #[.int .i64 k2, .int .u64 n2, .string t2, .int .i64 r2] 37).allocAt (g := w.heap.size + 1 + 1) (by simp) #[.int .i64 0, .int .u64 0, .string (⟨#[]⟩ : ByteArray), .int .i64 0] 37)
  have za := M0.out.box (.tail _ (.tail _ (.head _))); have zb := M0.out.box (.tail _ (.head _)); have zz := M0.out.box (.head _); have fz := M0.out.free (.head _)
  go_enter Try.func23, Try.ntmps23
  go_wp2_with fail
  repeat (go_quiet (fail); go_wp2_with fail)
  refine (impl_within.calls op 6 9 false _ bw).mono ?_
  rintro e v1 ⟨rfl, hb⟩
  have M1 := Aside0.mk (M0.out.step hb.below); clear hb za zb zz fz M0
  have za := M1.out.box (.tail _ (.tail _ (.head _))); have zb := M1.out.box (.tail _ (.head _)); have zz := M1.out.box (.head _); have fz := M1.out.free (.head _)
  go_wp2_with fail
  repeat (go_quiet (fail); go_wp2_with fail)
  refine (sameI k1 n1 t1 r1 k2 n2 t2 r2 _).mono ?_
  rintro e v2 ⟨rfl, hb⟩
  have M2 := Aside0.mk (M1.out.step hb); clear hb za zb zz fz M1
  have za := M2.out.box (.tail _ (.tail _ (.head _))); have zb := M2.out.box (.tail _ (.head _)); have zz := M2.out.box (.head _); have fz := M2.out.free (.head _)
  go_wp2_with fail
  repeat (go_quiet (fail); go_wp2_with fail)
  refine (boolI _ _).mono ?_
  rintro e v3 ⟨rfl, hb⟩
  have M3 := Aside0.mk (M2.out.step hb); clear hb za zb zz fz M2
  have za := M3.out.box (.tail _ (.tail _ (.head _))); have zb := M3.out.box (.tail _ (.head _)); have zz := M3.out.box (.head _); have fz := M3.out.free (.head _)
  go_wp2
  have M9 := Aside0.mk ((((M3.out.set (A := []) 0 (.int .i64 (1)) rfl).set (A := []) 1 (.int .u64 (bn (!same k1 n1 t1 r1 k2 n2 t2 r2))) rfl).set (A := []) 2 (.string ((⟨#[]⟩ : ByteArray))) rfl).set (A := []) 3 (.int .i64 (0)) rfl)
  refine bodyPost_ret (results_ct rfl _ _ (w.heap.size + 1 + 1) 37 #[.int .i64 (1), .int .u64 (bn (!same k1 n1 t1 r1 k2 n2 t2 r2)), .string ((⟨#[]⟩ : ByteArray)), .int .i64 (0)] (0, 0) _ rfl (M9.out.blk (.head _)) Try.underlying37 rfl (by kernel_rfl)) rfl ?_
  exact ⟨by rw [HR.out]; rfl, M9.out.below⟩
set_option maxHeartbeats 8000000 in
set_option maxRecDepth 100000 in
theorem i_same_2o (op k1 n1 r1 k2 n2 r2 : Int) (t1 t2 : ByteArray) (w : World) (hn1 : 0 ≤ n1 ∧ n1 < 18446744073709551616) (hn2 : 0 ≤ n2 ∧ n2 < 18446744073709551616) (hs1 : t1.size ≤ 1048576) (hs2 : t2.size ≤ 1048576) (a0 : (k1 == 2) = true) (a1 : (k2 == 2) = false) (a2 : (k1 == 3) = false) (b0 : (op == 10) = true) (bw : impl_within.f op 6 9 = some false)
    (hres : binV op k1 n1 t1 r1 k2 n2 t2 r2 = (1, bn (same k1 n1 t1 r1 k2 n2 t2 r2), (⟨#[]⟩ : ByteArray), 0, (⟨#[]⟩ : ByteArray))) :
    Calls Try.prog 23 #[.int .i64 op, .agg #[.int .i64 k1, .int .u64 n1, .string t1, .int .i64 r1], .agg #[.int .i64 k2, .int .u64 n2, .string t2, .int .i64 r2]] w fun e w' => e = .returned (.tuple #[.agg #[.int .i64 (binV op k1 n1 t1 r1 k2 n2 t2 r2).1, .int .u64 (binV op k1 n1 t1 r1 k2 n2 t2 r2).2.1, .string (binV op k1 n1 t1 r1 k2 n2 t2 r2).2.2.1, .int .i64 (binV op k1 n1 t1 r1 k2 n2 t2 r2).2.2.2.1], .string (binV op k1 n1 t1 r1 k2 n2 t2 r2).2.2.2.2]) ∧ Below w.heap.size w w' := by
  have hu := Try.underlying37
  have HR := Aside0.mk hres; clear hres
  have M0 := Aside0.mk ((((Mem.start w).allocAt (g := w.heap.size) rfl #[.int .i64 k1, .int .u64 n1, .string t1, .int .i64 r1] 37).allocAt (g := w.heap.size + 1) (by simp) #[.int .i64 k2, .int .u64 n2, .string t2, .int .i64 r2] 37).allocAt (g := w.heap.size + 1 + 1) (by simp) #[.int .i64 0, .int .u64 0, .string (⟨#[]⟩ : ByteArray), .int .i64 0] 37)
  have za := M0.out.box (.tail _ (.tail _ (.head _))); have zb := M0.out.box (.tail _ (.head _)); have zz := M0.out.box (.head _); have fz := M0.out.free (.head _)
  go_enter Try.func23, Try.ntmps23
  go_wp2_with fail
  repeat (go_quiet (fail); go_wp2_with fail)
  refine (impl_within.calls op 6 9 false _ bw).mono ?_
  rintro e v1 ⟨rfl, hb⟩
  have M1 := Aside0.mk (M0.out.step hb.below); clear hb za zb zz fz M0
  have za := M1.out.box (.tail _ (.tail _ (.head _))); have zb := M1.out.box (.tail _ (.head _)); have zz := M1.out.box (.head _); have fz := M1.out.free (.head _)
  go_wp2_with fail
  repeat (go_quiet (fail); go_wp2_with fail)
  refine (sameI k1 n1 t1 r1 k2 n2 t2 r2 _).mono ?_
  rintro e v2 ⟨rfl, hb⟩
  have M2 := Aside0.mk (M1.out.step hb); clear hb za zb zz fz M1
  have za := M2.out.box (.tail _ (.tail _ (.head _))); have zb := M2.out.box (.tail _ (.head _)); have zz := M2.out.box (.head _); have fz := M2.out.free (.head _)
  go_wp2_with fail
  repeat (go_quiet (fail); go_wp2_with fail)
  refine (boolI _ _).mono ?_
  rintro e v3 ⟨rfl, hb⟩
  have M3 := Aside0.mk (M2.out.step hb); clear hb za zb zz fz M2
  have za := M3.out.box (.tail _ (.tail _ (.head _))); have zb := M3.out.box (.tail _ (.head _)); have zz := M3.out.box (.head _); have fz := M3.out.free (.head _)
  go_wp2
  have M9 := Aside0.mk ((((M3.out.set (A := []) 0 (.int .i64 (1)) rfl).set (A := []) 1 (.int .u64 (bn (same k1 n1 t1 r1 k2 n2 t2 r2))) rfl).set (A := []) 2 (.string ((⟨#[]⟩ : ByteArray))) rfl).set (A := []) 3 (.int .i64 (0)) rfl)
  refine bodyPost_ret (results_ct rfl _ _ (w.heap.size + 1 + 1) 37 #[.int .i64 (1), .int .u64 (bn (same k1 n1 t1 r1 k2 n2 t2 r2)), .string ((⟨#[]⟩ : ByteArray)), .int .i64 (0)] (0, 0) _ rfl (M9.out.blk (.head _)) Try.underlying37 rfl (by kernel_rfl)) rfl ?_
  exact ⟨by rw [HR.out]; rfl, M9.out.below⟩
set_option maxHeartbeats 8000000 in
set_option maxRecDepth 100000 in
theorem i_other_2o (op k1 n1 r1 k2 n2 r2 : Int) (t1 t2 : ByteArray) (w : World) (hn1 : 0 ≤ n1 ∧ n1 < 18446744073709551616) (hn2 : 0 ≤ n2 ∧ n2 < 18446744073709551616) (hs1 : t1.size ≤ 1048576) (hs2 : t2.size ≤ 1048576) (a0 : (k1 == 2) = true) (a1 : (k2 == 2) = false) (a2 : (k1 == 3) = false) (b0 : (op == 10) = false) (b1 : (op == 11) = true) (bw : impl_within.f op 6 9 = some false)
    (hres : binV op k1 n1 t1 r1 k2 n2 t2 r2 = (1, bn (!same k1 n1 t1 r1 k2 n2 t2 r2), (⟨#[]⟩ : ByteArray), 0, (⟨#[]⟩ : ByteArray))) :
    Calls Try.prog 23 #[.int .i64 op, .agg #[.int .i64 k1, .int .u64 n1, .string t1, .int .i64 r1], .agg #[.int .i64 k2, .int .u64 n2, .string t2, .int .i64 r2]] w fun e w' => e = .returned (.tuple #[.agg #[.int .i64 (binV op k1 n1 t1 r1 k2 n2 t2 r2).1, .int .u64 (binV op k1 n1 t1 r1 k2 n2 t2 r2).2.1, .string (binV op k1 n1 t1 r1 k2 n2 t2 r2).2.2.1, .int .i64 (binV op k1 n1 t1 r1 k2 n2 t2 r2).2.2.2.1], .string (binV op k1 n1 t1 r1 k2 n2 t2 r2).2.2.2.2]) ∧ Below w.heap.size w w' := by
  have hu := Try.underlying37
  have HR := Aside0.mk hres; clear hres
  have M0 := Aside0.mk ((((Mem.start w).allocAt (g := w.heap.size) rfl #[.int .i64 k1, .int .u64 n1, .string t1, .int .i64 r1] 37).allocAt (g := w.heap.size + 1) (by simp) #[.int .i64 k2, .int .u64 n2, .string t2, .int .i64 r2] 37).allocAt (g := w.heap.size + 1 + 1) (by simp) #[.int .i64 0, .int .u64 0, .string (⟨#[]⟩ : ByteArray), .int .i64 0] 37)
  have za := M0.out.box (.tail _ (.tail _ (.head _))); have zb := M0.out.box (.tail _ (.head _)); have zz := M0.out.box (.head _); have fz := M0.out.free (.head _)
  go_enter Try.func23, Try.ntmps23
  go_wp2_with fail
  repeat (go_quiet (fail); go_wp2_with fail)
  refine (impl_within.calls op 6 9 false _ bw).mono ?_
  rintro e v1 ⟨rfl, hb⟩
  have M1 := Aside0.mk (M0.out.step hb.below); clear hb za zb zz fz M0
  have za := M1.out.box (.tail _ (.tail _ (.head _))); have zb := M1.out.box (.tail _ (.head _)); have zz := M1.out.box (.head _); have fz := M1.out.free (.head _)
  go_wp2_with fail
  repeat (go_quiet (fail); go_wp2_with fail)
  refine (sameI k1 n1 t1 r1 k2 n2 t2 r2 _).mono ?_
  rintro e v2 ⟨rfl, hb⟩
  have M2 := Aside0.mk (M1.out.step hb); clear hb za zb zz fz M1
  have za := M2.out.box (.tail _ (.tail _ (.head _))); have zb := M2.out.box (.tail _ (.head _)); have zz := M2.out.box (.head _); have fz := M2.out.free (.head _)
  go_wp2_with fail
  repeat (go_quiet (fail); go_wp2_with fail)
  refine (boolI _ _).mono ?_
  rintro e v3 ⟨rfl, hb⟩
  have M3 := Aside0.mk (M2.out.step hb); clear hb za zb zz fz M2
  have za := M3.out.box (.tail _ (.tail _ (.head _))); have zb := M3.out.box (.tail _ (.head _)); have zz := M3.out.box (.head _); have fz := M3.out.free (.head _)
  go_wp2
  have M9 := Aside0.mk ((((M3.out.set (A := []) 0 (.int .i64 (1)) rfl).set (A := []) 1 (.int .u64 (bn (!same k1 n1 t1 r1 k2 n2 t2 r2))) rfl).set (A := []) 2 (.string ((⟨#[]⟩ : ByteArray))) rfl).set (A := []) 3 (.int .i64 (0)) rfl)
  refine bodyPost_ret (results_ct rfl _ _ (w.heap.size + 1 + 1) 37 #[.int .i64 (1), .int .u64 (bn (!same k1 n1 t1 r1 k2 n2 t2 r2)), .string ((⟨#[]⟩ : ByteArray)), .int .i64 (0)] (0, 0) _ rfl (M9.out.blk (.head _)) Try.underlying37 rfl (by kernel_rfl)) rfl ?_
  exact ⟨by rw [HR.out]; rfl, M9.out.below⟩
set_option maxHeartbeats 8000000 in
set_option maxRecDepth 100000 in
theorem i_same_33 (op k1 n1 r1 k2 n2 r2 : Int) (t1 t2 : ByteArray) (w : World) (hn1 : 0 ≤ n1 ∧ n1 < 18446744073709551616) (hn2 : 0 ≤ n2 ∧ n2 < 18446744073709551616) (hs1 : t1.size ≤ 1048576) (hs2 : t2.size ≤ 1048576) (a0 : (k1 == 2) = false) (a2 : (k1 == 3) = true) (a3 : (k2 == 3) = true) (b0 : (op == 10) = true) (bw : impl_within.f op 6 9 = some false)
    (hres : binV op k1 n1 t1 r1 k2 n2 t2 r2 = (1, bn (same k1 n1 t1 r1 k2 n2 t2 r2), (⟨#[]⟩ : ByteArray), 0, (⟨#[]⟩ : ByteArray))) :
    Calls Try.prog 23 #[.int .i64 op, .agg #[.int .i64 k1, .int .u64 n1, .string t1, .int .i64 r1], .agg #[.int .i64 k2, .int .u64 n2, .string t2, .int .i64 r2]] w fun e w' => e = .returned (.tuple #[.agg #[.int .i64 (binV op k1 n1 t1 r1 k2 n2 t2 r2).1, .int .u64 (binV op k1 n1 t1 r1 k2 n2 t2 r2).2.1, .string (binV op k1 n1 t1 r1 k2 n2 t2 r2).2.2.1, .int .i64 (binV op k1 n1 t1 r1 k2 n2 t2 r2).2.2.2.1], .string (binV op k1 n1 t1 r1 k2 n2 t2 r2).2.2.2.2]) ∧ Below w.heap.size w w' := by
  have hu := Try.underlying37
  have HR := Aside0.mk hres; clear hres
  have M0 := Aside0.mk ((((Mem.start w).allocAt (g := w.heap.size) rfl #[.int .i64 k1, .int .u64 n1, .string t1, .int .i64 r1] 37).allocAt (g := w.heap.size + 1) (by simp) #[.int .i64 k2, .int .u64 n2, .string t2, .int .i64 r2] 37).allocAt (g := w.heap.size + 1 + 1) (by simp) #[.int .i64 0, .int .u64 0, .string (⟨#[]⟩ : ByteArray), .int .i64 0] 37)
  have za := M0.out.box (.tail _ (.tail _ (.head _))); have zb := M0.out.box (.tail _ (.head _)); have zz := M0.out.box (.head _); have fz := M0.out.free (.head _)
  go_enter Try.func23, Try.ntmps23
  go_wp2_with fail
  repeat (go_quiet (fail); go_wp2_with fail)
  refine (impl_within.calls op 6 9 false _ bw).mono ?_
  rintro e v1 ⟨rfl, hb⟩
  have M1 := Aside0.mk (M0.out.step hb.below); clear hb za zb zz fz M0
  have za := M1.out.box (.tail _ (.tail _ (.head _))); have zb := M1.out.box (.tail _ (.head _)); have zz := M1.out.box (.head _); have fz := M1.out.free (.head _)
  go_wp2_with fail
  repeat (go_quiet (fail); go_wp2_with fail)
  refine (sameI k1 n1 t1 r1 k2 n2 t2 r2 _).mono ?_
  rintro e v2 ⟨rfl, hb⟩
  have M2 := Aside0.mk (M1.out.step hb); clear hb za zb zz fz M1
  have za := M2.out.box (.tail _ (.tail _ (.head _))); have zb := M2.out.box (.tail _ (.head _)); have zz := M2.out.box (.head _); have fz := M2.out.free (.head _)
  go_wp2_with fail
  repeat (go_quiet (fail); go_wp2_with fail)
  refine (boolI _ _).mono ?_
  rintro e v3 ⟨rfl, hb⟩
  have M3 := Aside0.mk (M2.out.step hb); clear hb za zb zz fz M2
  have za := M3.out.box (.tail _ (.tail _ (.head _))); have zb := M3.out.box (.tail _ (.head _)); have zz := M3.out.box (.head _); have fz := M3.out.free (.head _)
  go_wp2
  have M9 := Aside0.mk ((((M3.out.set (A := []) 0 (.int .i64 (1)) rfl).set (A := []) 1 (.int .u64 (bn (same k1 n1 t1 r1 k2 n2 t2 r2))) rfl).set (A := []) 2 (.string ((⟨#[]⟩ : ByteArray))) rfl).set (A := []) 3 (.int .i64 (0)) rfl)
  refine bodyPost_ret (results_ct rfl _ _ (w.heap.size + 1 + 1) 37 #[.int .i64 (1), .int .u64 (bn (same k1 n1 t1 r1 k2 n2 t2 r2)), .string ((⟨#[]⟩ : ByteArray)), .int .i64 (0)] (0, 0) _ rfl (M9.out.blk (.head _)) Try.underlying37 rfl (by kernel_rfl)) rfl ?_
  exact ⟨by rw [HR.out]; rfl, M9.out.below⟩
set_option maxHeartbeats 8000000 in
set_option maxRecDepth 100000 in
theorem i_other_33 (op k1 n1 r1 k2 n2 r2 : Int) (t1 t2 : ByteArray) (w : World) (hn1 : 0 ≤ n1 ∧ n1 < 18446744073709551616) (hn2 : 0 ≤ n2 ∧ n2 < 18446744073709551616) (hs1 : t1.size ≤ 1048576) (hs2 : t2.size ≤ 1048576) (a0 : (k1 == 2) = false) (a2 : (k1 == 3) = true) (a3 : (k2 == 3) = true) (b0 : (op == 10) = false) (b1 : (op == 11) = true) (bw : impl_within.f op 6 9 = some false)
    (hres : binV op k1 n1 t1 r1 k2 n2 t2 r2 = (1, bn (!same k1 n1 t1 r1 k2 n2 t2 r2), (⟨#[]⟩ : ByteArray), 0, (⟨#[]⟩ : ByteArray))) :
    Calls Try.prog 23 #[.int .i64 op, .agg #[.int .i64 k1, .int .u64 n1, .string t1, .int .i64 r1], .agg #[.int .i64 k2, .int .u64 n2, .string t2, .int .i64 r2]] w fun e w' => e = .returned (.tuple #[.agg #[.int .i64 (binV op k1 n1 t1 r1 k2 n2 t2 r2).1, .int .u64 (binV op k1 n1 t1 r1 k2 n2 t2 r2).2.1, .string (binV op k1 n1 t1 r1 k2 n2 t2 r2).2.2.1, .int .i64 (binV op k1 n1 t1 r1 k2 n2 t2 r2).2.2.2.1], .string (binV op k1 n1 t1 r1 k2 n2 t2 r2).2.2.2.2]) ∧ Below w.heap.size w w' := by
  have hu := Try.underlying37
  have HR := Aside0.mk hres; clear hres
  have M0 := Aside0.mk ((((Mem.start w).allocAt (g := w.heap.size) rfl #[.int .i64 k1, .int .u64 n1, .string t1, .int .i64 r1] 37).allocAt (g := w.heap.size + 1) (by simp) #[.int .i64 k2, .int .u64 n2, .string t2, .int .i64 r2] 37).allocAt (g := w.heap.size + 1 + 1) (by simp) #[.int .i64 0, .int .u64 0, .string (⟨#[]⟩ : ByteArray), .int .i64 0] 37)
  have za := M0.out.box (.tail _ (.tail _ (.head _))); have zb := M0.out.box (.tail _ (.head _)); have zz := M0.out.box (.head _); have fz := M0.out.free (.head _)
  go_enter Try.func23, Try.ntmps23
  go_wp2_with fail
  repeat (go_quiet (fail); go_wp2_with fail)
  refine (impl_within.calls op 6 9 false _ bw).mono ?_
  rintro e v1 ⟨rfl, hb⟩
  have M1 := Aside0.mk (M0.out.step hb.below); clear hb za zb zz fz M0
  have za := M1.out.box (.tail _ (.tail _ (.head _))); have zb := M1.out.box (.tail _ (.head _)); have zz := M1.out.box (.head _); have fz := M1.out.free (.head _)
  go_wp2_with fail
  repeat (go_quiet (fail); go_wp2_with fail)
  refine (sameI k1 n1 t1 r1 k2 n2 t2 r2 _).mono ?_
  rintro e v2 ⟨rfl, hb⟩
  have M2 := Aside0.mk (M1.out.step hb); clear hb za zb zz fz M1
  have za := M2.out.box (.tail _ (.tail _ (.head _))); have zb := M2.out.box (.tail _ (.head _)); have zz := M2.out.box (.head _); have fz := M2.out.free (.head _)
  go_wp2_with fail
  repeat (go_quiet (fail); go_wp2_with fail)
  refine (boolI _ _).mono ?_
  rintro e v3 ⟨rfl, hb⟩
  have M3 := Aside0.mk (M2.out.step hb); clear hb za zb zz fz M2
  have za := M3.out.box (.tail _ (.tail _ (.head _))); have zb := M3.out.box (.tail _ (.head _)); have zz := M3.out.box (.head _); have fz := M3.out.free (.head _)
  go_wp2
  have M9 := Aside0.mk ((((M3.out.set (A := []) 0 (.int .i64 (1)) rfl).set (A := []) 1 (.int .u64 (bn (!same k1 n1 t1 r1 k2 n2 t2 r2))) rfl).set (A := []) 2 (.string ((⟨#[]⟩ : ByteArray))) rfl).set (A := []) 3 (.int .i64 (0)) rfl)
  refine bodyPost_ret (results_ct rfl _ _ (w.heap.size + 1 + 1) 37 #[.int .i64 (1), .int .u64 (bn (!same k1 n1 t1 r1 k2 n2 t2 r2)), .string ((⟨#[]⟩ : ByteArray)), .int .i64 (0)] (0, 0) _ rfl (M9.out.blk (.head _)) Try.underlying37 rfl (by kernel_rfl)) rfl ?_
  exact ⟨by rw [HR.out]; rfl, M9.out.below⟩
set_option maxHeartbeats 8000000 in
set_option maxRecDepth 100000 in
theorem i_same_3o (op k1 n1 r1 k2 n2 r2 : Int) (t1 t2 : ByteArray) (w : World) (hn1 : 0 ≤ n1 ∧ n1 < 18446744073709551616) (hn2 : 0 ≤ n2 ∧ n2 < 18446744073709551616) (hs1 : t1.size ≤ 1048576) (hs2 : t2.size ≤ 1048576) (a0 : (k1 == 2) = false) (a2 : (k1 == 3) = true) (a3 : (k2 == 3) = false) (b0 : (op == 10) = true) (bw : impl_within.f op 6 9 = some false)
    (hres : binV op k1 n1 t1 r1 k2 n2 t2 r2 = (1, bn (same k1 n1 t1 r1 k2 n2 t2 r2), (⟨#[]⟩ : ByteArray), 0, (⟨#[]⟩ : ByteArray))) :
    Calls Try.prog 23 #[.int .i64 op, .agg #[.int .i64 k1, .int .u64 n1, .string t1, .int .i64 r1], .agg #[.int .i64 k2, .int .u64 n2, .string t2, .int .i64 r2]] w fun e w' => e = .returned (.tuple #[.agg #[.int .i64 (binV op k1 n1 t1 r1 k2 n2 t2 r2).1, .int .u64 (binV op k1 n1 t1 r1 k2 n2 t2 r2).2.1, .string (binV op k1 n1 t1 r1 k2 n2 t2 r2).2.2.1, .int .i64 (binV op k1 n1 t1 r1 k2 n2 t2 r2).2.2.2.1], .string (binV op k1 n1 t1 r1 k2 n2 t2 r2).2.2.2.2]) ∧ Below w.heap.size w w' := by
  have hu := Try.underlying37
  have HR := Aside0.mk hres; clear hres
  have M0 := Aside0.mk ((((Mem.start w).allocAt (g := w.heap.size) rfl #[.int .i64 k1, .int .u64 n1, .string t1, .int .i64 r1] 37).allocAt (g := w.heap.size + 1) (by simp) #[.int .i64 k2, .int .u64 n2, .string t2, .int .i64 r2] 37).allocAt (g := w.heap.size + 1 + 1) (by simp) #[.int .i64 0, .int .u64 0, .string (⟨#[]⟩ : ByteArray), .int .i64 0] 37)
  have za := M0.out.box (.tail _ (.tail _ (.head _))); have zb := M0.out.box (.tail _ (.head _)); have zz := M0.out.box (.head _); have fz := M0.out.free (.head _)
  go_enter Try.func23, Try.ntmps23
  go_wp2_with fail
  repeat (go_quiet (fail); go_wp2_with fail)
  refine (impl_within.calls op 6 9 false _ bw).mono ?_
  rintro e v1 ⟨rfl, hb⟩
  have M1 := Aside0.mk (M0.out.step hb.below); clear hb za zb zz fz M0
  have za := M1.out.box (.tail _ (.tail _ (.head _))); have zb := M1.out.box (.tail _ (.head _)); have zz := M1.out.box (.head _); have fz := M1.out.free (.head _)
  go_wp2_with fail
  repeat (go_quiet (fail); go_wp2_with fail)
  refine (sameI k1 n1 t1 r1 k2 n2 t2 r2 _).mono ?_
  rintro e v2 ⟨rfl, hb⟩
  have M2 := Aside0.mk (M1.out.step hb); clear hb za zb zz fz M1
  have za := M2.out.box (.tail _ (.tail _ (.head _))); have zb := M2.out.box (.tail _ (.head _)); have zz := M2.out.box (.head _); have fz := M2.out.free (.head _)
  go_wp2_with fail
  repeat (go_quiet (fail); go_wp2_with fail)
  refine (boolI _ _).mono ?_
  rintro e v3 ⟨rfl, hb⟩
  have M3 := Aside0.mk (M2.out.step hb); clear hb za zb zz fz M2
  have za := M3.out.box (.tail _ (.tail _ (.head _))); have zb := M3.out.box (.tail _ (.head _)); have zz := M3.out.box (.head _); have fz := M3.out.free (.head _)
  go_wp2
  have M9 := Aside0.mk ((((M3.out.set (A := []) 0 (.int .i64 (1)) rfl).set (A := []) 1 (.int .u64 (bn (same k1 n1 t1 r1 k2 n2 t2 r2))) rfl).set (A := []) 2 (.string ((⟨#[]⟩ : ByteArray))) rfl).set (A := []) 3 (.int .i64 (0)) rfl)
  refine bodyPost_ret (results_ct rfl _ _ (w.heap.size + 1 + 1) 37 #[.int .i64 (1), .int .u64 (bn (same k1 n1 t1 r1 k2 n2 t2 r2)), .string ((⟨#[]⟩ : ByteArray)), .int .i64 (0)] (0, 0) _ rfl (M9.out.blk (.head _)) Try.underlying37 rfl (by kernel_rfl)) rfl ?_
  exact ⟨by rw [HR.out]; rfl, M9.out.below⟩
set_option maxHeartbeats 8000000 in
set_option maxRecDepth 100000 in
theorem i_other_3o (op k1 n1 r1 k2 n2 r2 : Int) (t1 t2 : ByteArray) (w : World) (hn1 : 0 ≤ n1 ∧ n1 < 18446744073709551616) (hn2 : 0 ≤ n2 ∧ n2 < 18446744073709551616) (hs1 : t1.size ≤ 1048576) (hs2 : t2.size ≤ 1048576) (a0 : (k1 == 2) = false) (a2 : (k1 == 3) = true) (a3 : (k2 == 3) = false) (b0 : (op == 10) = false) (b1 : (op == 11) = true) (bw : impl_within.f op 6 9 = some false)
    (hres : binV op k1 n1 t1 r1 k2 n2 t2 r2 = (1, bn (!same k1 n1 t1 r1 k2 n2 t2 r2), (⟨#[]⟩ : ByteArray), 0, (⟨#[]⟩ : ByteArray))) :
    Calls Try.prog 23 #[.int .i64 op, .agg #[.int .i64 k1, .int .u64 n1, .string t1, .int .i64 r1], .agg #[.int .i64 k2, .int .u64 n2, .string t2, .int .i64 r2]] w fun e w' => e = .returned (.tuple #[.agg #[.int .i64 (binV op k1 n1 t1 r1 k2 n2 t2 r2).1, .int .u64 (binV op k1 n1 t1 r1 k2 n2 t2 r2).2.1, .string (binV op k1 n1 t1 r1 k2 n2 t2 r2).2.2.1, .int .i64 (binV op k1 n1 t1 r1 k2 n2 t2 r2).2.2.2.1], .string (binV op k1 n1 t1 r1 k2 n2 t2 r2).2.2.2.2]) ∧ Below w.heap.size w w' := by
  have hu := Try.underlying37
  have HR := Aside0.mk hres; clear hres
  have M0 := Aside0.mk ((((Mem.start w).allocAt (g := w.heap.size) rfl #[.int .i64 k1, .int .u64 n1, .string t1, .int .i64 r1] 37).allocAt (g := w.heap.size + 1) (by simp) #[.int .i64 k2, .int .u64 n2, .string t2, .int .i64 r2] 37).allocAt (g := w.heap.size + 1 + 1) (by simp) #[.int .i64 0, .int .u64 0, .string (⟨#[]⟩ : ByteArray), .int .i64 0] 37)
  have za := M0.out.box (.tail _ (.tail _ (.head _))); have zb := M0.out.box (.tail _ (.head _)); have zz := M0.out.box (.head _); have fz := M0.out.free (.head _)
  go_enter Try.func23, Try.ntmps23
  go_wp2_with fail
  repeat (go_quiet (fail); go_wp2_with fail)
  refine (impl_within.calls op 6 9 false _ bw).mono ?_
  rintro e v1 ⟨rfl, hb⟩
  have M1 := Aside0.mk (M0.out.step hb.below); clear hb za zb zz fz M0
  have za := M1.out.box (.tail _ (.tail _ (.head _))); have zb := M1.out.box (.tail _ (.head _)); have zz := M1.out.box (.head _); have fz := M1.out.free (.head _)
  go_wp2_with fail
  repeat (go_quiet (fail); go_wp2_with fail)
  refine (sameI k1 n1 t1 r1 k2 n2 t2 r2 _).mono ?_
  rintro e v2 ⟨rfl, hb⟩
  have M2 := Aside0.mk (M1.out.step hb); clear hb za zb zz fz M1
  have za := M2.out.box (.tail _ (.tail _ (.head _))); have zb := M2.out.box (.tail _ (.head _)); have zz := M2.out.box (.head _); have fz := M2.out.free (.head _)
  go_wp2_with fail
  repeat (go_quiet (fail); go_wp2_with fail)
  refine (boolI _ _).mono ?_
  rintro e v3 ⟨rfl, hb⟩
  have M3 := Aside0.mk (M2.out.step hb); clear hb za zb zz fz M2
  have za := M3.out.box (.tail _ (.tail _ (.head _))); have zb := M3.out.box (.tail _ (.head _)); have zz := M3.out.box (.head _); have fz := M3.out.free (.head _)
  go_wp2
  have M9 := Aside0.mk ((((M3.out.set (A := []) 0 (.int .i64 (1)) rfl).set (A := []) 1 (.int .u64 (bn (!same k1 n1 t1 r1 k2 n2 t2 r2))) rfl).set (A := []) 2 (.string ((⟨#[]⟩ : ByteArray))) rfl).set (A := []) 3 (.int .i64 (0)) rfl)
  refine bodyPost_ret (results_ct rfl _ _ (w.heap.size + 1 + 1) 37 #[.int .i64 (1), .int .u64 (bn (!same k1 n1 t1 r1 k2 n2 t2 r2)), .string ((⟨#[]⟩ : ByteArray)), .int .i64 (0)] (0, 0) _ rfl (M9.out.blk (.head _)) Try.underlying37 rfl (by kernel_rfl)) rfl ?_
  exact ⟨by rw [HR.out]; rfl, M9.out.below⟩
set_option maxHeartbeats 8000000 in
set_option maxRecDepth 100000 in
theorem i_same_oo (op k1 n1 r1 k2 n2 r2 : Int) (t1 t2 : ByteArray) (w : World) (hn1 : 0 ≤ n1 ∧ n1 < 18446744073709551616) (hn2 : 0 ≤ n2 ∧ n2 < 18446744073709551616) (hs1 : t1.size ≤ 1048576) (hs2 : t2.size ≤ 1048576) (a0 : (k1 == 2) = false) (a2 : (k1 == 3) = false) (b0 : (op == 10) = true) (bw : impl_within.f op 6 9 = some false)
    (hres : binV op k1 n1 t1 r1 k2 n2 t2 r2 = (1, bn (same k1 n1 t1 r1 k2 n2 t2 r2), (⟨#[]⟩ : ByteArray), 0, (⟨#[]⟩ : ByteArray))) :
    Calls Try.prog 23 #[.int .i64 op, .agg #[.int .i64 k1, .int .u64 n1, .string t1, .int .i64 r1], .agg #[.int .i64 k2, .int .u64 n2, .string t2, .int .i64 r2]] w fun e w' => e = .returned (.tuple #[.agg #[.int .i64 (binV op k1 n1 t1 r1 k2 n2 t2 r2).1, .int .u64 (binV op k1 n1 t1 r1 k2 n2 t2 r2).2.1, .string (binV op k1 n1 t1 r1 k2 n2 t2 r2).2.2.1, .int .i64 (binV op k1 n1 t1 r1 k2 n2 t2 r2).2.2.2.1], .string (binV op k1 n1 t1 r1 k2 n2 t2 r2).2.2.2.2]) ∧ Below w.heap.size w w' := by
  have hu := Try.underlying37
  have HR := Aside0.mk hres; clear hres
  have M0 := Aside0.mk ((((Mem.start w).allocAt (g := w.heap.size) rfl #[.int .i64 k1, .int .u64 n1, .string t1, .int .i64 r1] 37).allocAt (g := w.heap.size + 1) (by simp) #[.int .i64 k2, .int .u64 n2, .string t2, .int .i64 r2] 37).allocAt (g := w.heap.size + 1 + 1) (by simp) #[.int .i64 0, .int .u64 0, .string (⟨#[]⟩ : ByteArray), .int .i64 0] 37)
  have za := M0.out.box (.tail _ (.tail _ (.head _))); have zb := M0.out.box (.tail _ (.head _)); have zz := M0.out.box (.head _); have fz := M0.out.free (.head _)
  go_enter Try.func23, Try.ntmps23
  go_wp2_with fail
  repeat (go_quiet (fail); go_wp2_with fail)
  refine (impl_within.calls op 6 9 false _ bw).mono ?_
  rintro e v1 ⟨rfl, hb⟩
  have M1 := Aside0.mk (M0.out.step hb.below); clear hb za zb zz fz M0
  have za := M1.out.box (.tail _ (.tail _ (.head _))); have zb := M1.out.box (.tail _ (.head _)); have zz := M1.out.box (.head _); have fz := M1.out.free (.head _)
  go_wp2_with fail
  repeat (go_quiet (fail); go_wp2_with fail)
  refine (sameI k1 n1 t1 r1 k2 n2 t2 r2 _).mono ?_
  rintro e v2 ⟨rfl, hb⟩
  have M2 := Aside0.mk (M1.out.step hb); clear hb za zb zz fz M1
  have za := M2.out.box (.tail _ (.tail _ (.head _))); have zb := M2.out.box (.tail _ (.head _)); have zz := M2.out.box (.head _); have fz := M2.out.free (.head _)
  go_wp2_with fail
  repeat (go_quiet (fail); go_wp2_with fail)
  refine (boolI _ _).mono ?_
  rintro e v3 ⟨rfl, hb⟩
  have M3 := Aside0.mk (M2.out.step hb); clear hb za zb zz fz M2
  have za := M3.out.box (.tail _ (.tail _ (.head _))); have zb := M3.out.box (.tail _ (.head _)); have zz := M3.out.box (.head _); have fz := M3.out.free (.head _)
  go_wp2
  have M9 := Aside0.mk ((((M3.out.set (A := []) 0 (.int .i64 (1)) rfl).set (A := []) 1 (.int .u64 (bn (same k1 n1 t1 r1 k2 n2 t2 r2))) rfl).set (A := []) 2 (.string ((⟨#[]⟩ : ByteArray))) rfl).set (A := []) 3 (.int .i64 (0)) rfl)
  refine bodyPost_ret (results_ct rfl _ _ (w.heap.size + 1 + 1) 37 #[.int .i64 (1), .int .u64 (bn (same k1 n1 t1 r1 k2 n2 t2 r2)), .string ((⟨#[]⟩ : ByteArray)), .int .i64 (0)] (0, 0) _ rfl (M9.out.blk (.head _)) Try.underlying37 rfl (by kernel_rfl)) rfl ?_
  exact ⟨by rw [HR.out]; rfl, M9.out.below⟩
set_option maxHeartbeats 8000000 in
set_option maxRecDepth 100000 in
theorem i_other_oo (op k1 n1 r1 k2 n2 r2 : Int) (t1 t2 : ByteArray) (w : World) (hn1 : 0 ≤ n1 ∧ n1 < 18446744073709551616) (hn2 : 0 ≤ n2 ∧ n2 < 18446744073709551616) (hs1 : t1.size ≤ 1048576) (hs2 : t2.size ≤ 1048576) (a0 : (k1 == 2) = false) (a2 : (k1 == 3) = false) (b0 : (op == 10) = false) (b1 : (op == 11) = true) (bw : impl_within.f op 6 9 = some false)
    (hres : binV op k1 n1 t1 r1 k2 n2 t2 r2 = (1, bn (!same k1 n1 t1 r1 k2 n2 t2 r2), (⟨#[]⟩ : ByteArray), 0, (⟨#[]⟩ : ByteArray))) :
    Calls Try.prog 23 #[.int .i64 op, .agg #[.int .i64 k1, .int .u64 n1, .string t1, .int .i64 r1], .agg #[.int .i64 k2, .int .u64 n2, .string t2, .int .i64 r2]] w fun e w' => e = .returned (.tuple #[.agg #[.int .i64 (binV op k1 n1 t1 r1 k2 n2 t2 r2).1, .int .u64 (binV op k1 n1 t1 r1 k2 n2 t2 r2).2.1, .string (binV op k1 n1 t1 r1 k2 n2 t2 r2).2.2.1, .int .i64 (binV op k1 n1 t1 r1 k2 n2 t2 r2).2.2.2.1], .string (binV op k1 n1 t1 r1 k2 n2 t2 r2).2.2.2.2]) ∧ Below w.heap.size w w' := by
  have hu := Try.underlying37
  have HR := Aside0.mk hres; clear hres
  have M0 := Aside0.mk ((((Mem.start w).allocAt (g := w.heap.size) rfl #[.int .i64 k1, .int .u64 n1, .string t1, .int .i64 r1] 37).allocAt (g := w.heap.size + 1) (by simp) #[.int .i64 k2, .int .u64 n2, .string t2, .int .i64 r2] 37).allocAt (g := w.heap.size + 1 + 1) (by simp) #[.int .i64 0, .int .u64 0, .string (⟨#[]⟩ : ByteArray), .int .i64 0] 37)
  have za := M0.out.box (.tail _ (.tail _ (.head _))); have zb := M0.out.box (.tail _ (.head _)); have zz := M0.out.box (.head _); have fz := M0.out.free (.head _)
  go_enter Try.func23, Try.ntmps23
  go_wp2_with fail
  repeat (go_quiet (fail); go_wp2_with fail)
  refine (impl_within.calls op 6 9 false _ bw).mono ?_
  rintro e v1 ⟨rfl, hb⟩
  have M1 := Aside0.mk (M0.out.step hb.below); clear hb za zb zz fz M0
  have za := M1.out.box (.tail _ (.tail _ (.head _))); have zb := M1.out.box (.tail _ (.head _)); have zz := M1.out.box (.head _); have fz := M1.out.free (.head _)
  go_wp2_with fail
  repeat (go_quiet (fail); go_wp2_with fail)
  refine (sameI k1 n1 t1 r1 k2 n2 t2 r2 _).mono ?_
  rintro e v2 ⟨rfl, hb⟩
  have M2 := Aside0.mk (M1.out.step hb); clear hb za zb zz fz M1
  have za := M2.out.box (.tail _ (.tail _ (.head _))); have zb := M2.out.box (.tail _ (.head _)); have zz := M2.out.box (.head _); have fz := M2.out.free (.head _)
  go_wp2_with fail
  repeat (go_quiet (fail); go_wp2_with fail)
  refine (boolI _ _).mono ?_
  rintro e v3 ⟨rfl, hb⟩
  have M3 := Aside0.mk (M2.out.step hb); clear hb za zb zz fz M2
  have za := M3.out.box (.tail _ (.tail _ (.head _))); have zb := M3.out.box (.tail _ (.head _)); have zz := M3.out.box (.head _); have fz := M3.out.free (.head _)
  go_wp2
  have M9 := Aside0.mk ((((M3.out.set (A := []) 0 (.int .i64 (1)) rfl).set (A := []) 1 (.int .u64 (bn (!same k1 n1 t1 r1 k2 n2 t2 r2))) rfl).set (A := []) 2 (.string ((⟨#[]⟩ : ByteArray))) rfl).set (A := []) 3 (.int .i64 (0)) rfl)
  refine bodyPost_ret (results_ct rfl _ _ (w.heap.size + 1 + 1) 37 #[.int .i64 (1), .int .u64 (bn (!same k1 n1 t1 r1 k2 n2 t2 r2)), .string ((⟨#[]⟩ : ByteArray)), .int .i64 (0)] (0, 0) _ rfl (M9.out.blk (.head _)) Try.underlying37 rfl (by kernel_rfl)) rfl ?_
  exact ⟨by rw [HR.out]; rfl, M9.out.below⟩
set_option maxHeartbeats 8000000 in
set_option maxRecDepth 100000 in
theorem i_type_2o_true (op k1 n1 r1 k2 n2 r2 : Int) (t1 t2 : ByteArray) (w : World) (hn1 : 0 ≤ n1 ∧ n1 < 18446744073709551616) (hn2 : 0 ≤ n2 ∧ n2 < 18446744073709551616) (hs1 : t1.size ≤ 1048576) (hs2 : t2.size ≤ 1048576) (a0 : (k1 == 2) = true) (a1 : (k2 == 2) = false) (a2 : (k1 == 3) = false) (b0 : (op == 10) = false) (b1 : (op == 11) = false) (bw : impl_within.f op 6 9 = some true)
    (hres : binV op k1 n1 t1 r1 k2 n2 t2 r2 = (0, 0, (⟨#[]⟩ : ByteArray), 0, (⟨#[116, 121, 112, 101]⟩ : ByteArray))) :
    Calls Try.prog 23 #[.int .i64 op, .agg #[.int .i64 k1, .int .u64 n1, .string t1, .int .i64 r1], .agg #[.int .i64 k2, .int .u64 n2, .string t2, .int .i64 r2]] w fun e w' => e = .returned (.tuple #[.agg #[.int .i64 (binV op k1 n1 t1 r1 k2 n2 t2 r2).1, .int .u64 (binV op k1 n1 t1 r1 k2 n2 t2 r2).2.1, .string (binV op k1 n1 t1 r1 k2 n2 t2 r2).2.2.1, .int .i64 (binV op k1 n1 t1 r1 k2 n2 t2 r2).2.2.2.1], .string (binV op k1 n1 t1 r1 k2 n2 t2 r2).2.2.2.2]) ∧ Below w.heap.size w w' := by
  have hu := Try.underlying37
  have HR := Aside0.mk hres; clear hres
  have M0 := Aside0.mk ((((Mem.start w).allocAt (g := w.heap.size) rfl #[.int .i64 k1, .int .u64 n1, .string t1, .int .i64 r1] 37).allocAt (g := w.heap.size + 1) (by simp) #[.int .i64 k2, .int .u64 n2, .string t2, .int .i64 r2] 37).allocAt (g := w.heap.size + 1 + 1) (by simp) #[.int .i64 0, .int .u64 0, .string (⟨#[]⟩ : ByteArray), .int .i64 0] 37)
  have za := M0.out.box (.tail _ (.tail _ (.head _))); have zb := M0.out.box (.tail _ (.head _)); have zz := M0.out.box (.head _); have fz := M0.out.free (.head _)
  go_enter Try.func23, Try.ntmps23
  go_wp2_with fail
  repeat (go_quiet (fail); go_wp2_with fail)
  refine (impl_within.calls op 6 9 true _ bw).mono ?_
  rintro e v1 ⟨rfl, hb⟩
  have M1 := Aside0.mk (M0.out.step hb.below); clear hb za zb zz fz M0
  have za := M1.out.box (.tail _ (.tail _ (.head _))); have zb := M1.out.box (.tail _ (.head _)); have zz := M1.out.box (.head _); have fz := M1.out.free (.head _)
  go_wp2
  have M9 := Aside0.mk ((((M1.out.set (A := []) 0 (.int .i64 (0)) rfl).set (A := []) 1 (.int .u64 (0)) rfl).set (A := []) 2 (.string ((⟨#[]⟩ : ByteArray))) rfl).set (A := []) 3 (.int .i64 (0)) rfl)
  refine bodyPost_ret (results_ct rfl _ _ (w.heap.size + 1 + 1) 37 #[.int .i64 (0), .int .u64 (0), .string ((⟨#[]⟩ : ByteArray)), .int .i64 (0)] (0, 0) _ rfl (M9.out.blk (.head _)) Try.underlying37 rfl (by kernel_rfl)) rfl ?_
  exact ⟨by rw [HR.out]; rfl, M9.out.below⟩
set_option maxHeartbeats 8000000 in
set_option maxRecDepth 100000 in
theorem i_type_2o_false (op k1 n1 r1 k2 n2 r2 : Int) (t1 t2 : ByteArray) (w : World) (hn1 : 0 ≤ n1 ∧ n1 < 18446744073709551616) (hn2 : 0 ≤ n2 ∧ n2 < 18446744073709551616) (hs1 : t1.size ≤ 1048576) (hs2 : t2.size ≤ 1048576) (a0 : (k1 == 2) = true) (a1 : (k2 == 2) = false) (a2 : (k1 == 3) = false) (b0 : (op == 10) = false) (b1 : (op == 11) = false) (bw : impl_within.f op 6 9 = some false)
    (hres : binV op k1 n1 t1 r1 k2 n2 t2 r2 = (0, 0, (⟨#[]⟩ : ByteArray), 0, (⟨#[116, 121, 112, 101]⟩ : ByteArray))) :
    Calls Try.prog 23 #[.int .i64 op, .agg #[.int .i64 k1, .int .u64 n1, .string t1, .int .i64 r1], .agg #[.int .i64 k2, .int .u64 n2, .string t2, .int .i64 r2]] w fun e w' => e = .returned (.tuple #[.agg #[.int .i64 (binV op k1 n1 t1 r1 k2 n2 t2 r2).1, .int .u64 (binV op k1 n1 t1 r1 k2 n2 t2 r2).2.1, .string (binV op k1 n1 t1 r1 k2 n2 t2 r2).2.2.1, .int .i64 (binV op k1 n1 t1 r1 k2 n2 t2 r2).2.2.2.1], .string (binV op k1 n1 t1 r1 k2 n2 t2 r2).2.2.2.2]) ∧ Below w.heap.size w w' := by
  have hu := Try.underlying37
  have HR := Aside0.mk hres; clear hres
  have M0 := Aside0.mk ((((Mem.start w).allocAt (g := w.heap.size) rfl #[.int .i64 k1, .int .u64 n1, .string t1, .int .i64 r1] 37).allocAt (g := w.heap.size + 1) (by simp) #[.int .i64 k2, .int .u64 n2, .string t2, .int .i64 r2] 37).allocAt (g := w.heap.size + 1 + 1) (by simp) #[.int .i64 0, .int .u64 0, .string (⟨#[]⟩ : ByteArray), .int .i64 0] 37)
  have za := M0.out.box (.tail _ (.tail _ (.head _))); have zb := M0.out.box (.tail _ (.head _)); have zz := M0.out.box (.head _); have fz := M0.out.free (.head _)
  go_enter Try.func23, Try.ntmps23
  go_wp2_with fail
  repeat (go_quiet (fail); go_wp2_with fail)
  refine (impl_within.calls op 6 9 false _ bw).mono ?_
  rintro e v1 ⟨rfl, hb⟩
  have M1 := Aside0.mk (M0.out.step hb.below); clear hb za zb zz fz M0
  have za := M1.out.box (.tail _ (.tail _ (.head _))); have zb := M1.out.box (.tail _ (.head _)); have zz := M1.out.box (.head _); have fz := M1.out.free (.head _)
  go_wp2
  have M9 := Aside0.mk ((((M1.out.set (A := []) 0 (.int .i64 (0)) rfl).set (A := []) 1 (.int .u64 (0)) rfl).set (A := []) 2 (.string ((⟨#[]⟩ : ByteArray))) rfl).set (A := []) 3 (.int .i64 (0)) rfl)
  refine bodyPost_ret (results_ct rfl _ _ (w.heap.size + 1 + 1) 37 #[.int .i64 (0), .int .u64 (0), .string ((⟨#[]⟩ : ByteArray)), .int .i64 (0)] (0, 0) _ rfl (M9.out.blk (.head _)) Try.underlying37 rfl (by kernel_rfl)) rfl ?_
  exact ⟨by rw [HR.out]; rfl, M9.out.below⟩
set_option maxHeartbeats 8000000 in
set_option maxRecDepth 100000 in
theorem i_type_3o_true (op k1 n1 r1 k2 n2 r2 : Int) (t1 t2 : ByteArray) (w : World) (hn1 : 0 ≤ n1 ∧ n1 < 18446744073709551616) (hn2 : 0 ≤ n2 ∧ n2 < 18446744073709551616) (hs1 : t1.size ≤ 1048576) (hs2 : t2.size ≤ 1048576) (a0 : (k1 == 2) = false) (a2 : (k1 == 3) = true) (a3 : (k2 == 3) = false) (b0 : (op == 10) = false) (b1 : (op == 11) = false) (bw : impl_within.f op 6 9 = some true)
    (hres : binV op k1 n1 t1 r1 k2 n2 t2 r2 = (0, 0, (⟨#[]⟩ : ByteArray), 0, (⟨#[116, 121, 112, 101]⟩ : ByteArray))) :
    Calls Try.prog 23 #[.int .i64 op, .agg #[.int .i64 k1, .int .u64 n1, .string t1, .int .i64 r1], .agg #[.int .i64 k2, .int .u64 n2, .string t2, .int .i64 r2]] w fun e w' => e = .returned (.tuple #[.agg #[.int .i64 (binV op k1 n1 t1 r1 k2 n2 t2 r2).1, .int .u64 (binV op k1 n1 t1 r1 k2 n2 t2 r2).2.1, .string (binV op k1 n1 t1 r1 k2 n2 t2 r2).2.2.1, .int .i64 (binV op k1 n1 t1 r1 k2 n2 t2 r2).2.2.2.1], .string (binV op k1 n1 t1 r1 k2 n2 t2 r2).2.2.2.2]) ∧ Below w.heap.size w w' := by
  have hu := Try.underlying37
  have HR := Aside0.mk hres; clear hres
  have M0 := Aside0.mk ((((Mem.start w).allocAt (g := w.heap.size) rfl #[.int .i64 k1, .int .u64 n1, .string t1, .int .i64 r1] 37).allocAt (g := w.heap.size + 1) (by simp) #[.int .i64 k2, .int .u64 n2, .string t2, .int .i64 r2] 37).allocAt (g := w.heap.size + 1 + 1) (by simp) #[.int .i64 0, .int .u64 0, .string (⟨#[]⟩ : ByteArray), .int .i64 0] 37)
  have za := M0.out.box (.tail _ (.tail _ (.head _))); have zb := M0.out.box (.tail _ (.head _)); have zz := M0.out.box (.head _); have fz := M0.out.free (.head _)
  go_enter Try.func23, Try.ntmps23
  go_wp2_with fail
  repeat (go_quiet (fail); go_wp2_with fail)
  refine (impl_within.calls op 6 9 true _ bw).mono ?_
  rintro e v1 ⟨rfl, hb⟩
  have M1 := Aside0.mk (M0.out.step hb.below); clear hb za zb zz fz M0
  have za := M1.out.box (.tail _ (.tail _ (.head _))); have zb := M1.out.box (.tail _ (.head _)); have zz := M1.out.box (.head _); have fz := M1.out.free (.head _)
  go_wp2
  have M9 := Aside0.mk ((((M1.out.set (A := []) 0 (.int .i64 (0)) rfl).set (A := []) 1 (.int .u64 (0)) rfl).set (A := []) 2 (.string ((⟨#[]⟩ : ByteArray))) rfl).set (A := []) 3 (.int .i64 (0)) rfl)
  refine bodyPost_ret (results_ct rfl _ _ (w.heap.size + 1 + 1) 37 #[.int .i64 (0), .int .u64 (0), .string ((⟨#[]⟩ : ByteArray)), .int .i64 (0)] (0, 0) _ rfl (M9.out.blk (.head _)) Try.underlying37 rfl (by kernel_rfl)) rfl ?_
  exact ⟨by rw [HR.out]; rfl, M9.out.below⟩
set_option maxHeartbeats 8000000 in
set_option maxRecDepth 100000 in
theorem i_type_3o_false (op k1 n1 r1 k2 n2 r2 : Int) (t1 t2 : ByteArray) (w : World) (hn1 : 0 ≤ n1 ∧ n1 < 18446744073709551616) (hn2 : 0 ≤ n2 ∧ n2 < 18446744073709551616) (hs1 : t1.size ≤ 1048576) (hs2 : t2.size ≤ 1048576) (a0 : (k1 == 2) = false) (a2 : (k1 == 3) = true) (a3 : (k2 == 3) = false) (b0 : (op == 10) = false) (b1 : (op == 11) = false) (bw : impl_within.f op 6 9 = some false)
    (hres : binV op k1 n1 t1 r1 k2 n2 t2 r2 = (0, 0, (⟨#[]⟩ : ByteArray), 0, (⟨#[116, 121, 112, 101]⟩ : ByteArray))) :
    Calls Try.prog 23 #[.int .i64 op, .agg #[.int .i64 k1, .int .u64 n1, .string t1, .int .i64 r1], .agg #[.int .i64 k2, .int .u64 n2, .string t2, .int .i64 r2]] w fun e w' => e = .returned (.tuple #[.agg #[.int .i64 (binV op k1 n1 t1 r1 k2 n2 t2 r2).1, .int .u64 (binV op k1 n1 t1 r1 k2 n2 t2 r2).2.1, .string (binV op k1 n1 t1 r1 k2 n2 t2 r2).2.2.1, .int .i64 (binV op k1 n1 t1 r1 k2 n2 t2 r2).2.2.2.1], .string (binV op k1 n1 t1 r1 k2 n2 t2 r2).2.2.2.2]) ∧ Below w.heap.size w w' := by
  have hu := Try.underlying37
  have HR := Aside0.mk hres; clear hres
  have M0 := Aside0.mk ((((Mem.start w).allocAt (g := w.heap.size) rfl #[.int .i64 k1, .int .u64 n1, .string t1, .int .i64 r1] 37).allocAt (g := w.heap.size + 1) (by simp) #[.int .i64 k2, .int .u64 n2, .string t2, .int .i64 r2] 37).allocAt (g := w.heap.size + 1 + 1) (by simp) #[.int .i64 0, .int .u64 0, .string (⟨#[]⟩ : ByteArray), .int .i64 0] 37)
  have za := M0.out.box (.tail _ (.tail _ (.head _))); have zb := M0.out.box (.tail _ (.head _)); have zz := M0.out.box (.head _); have fz := M0.out.free (.head _)
  go_enter Try.func23, Try.ntmps23
  go_wp2_with fail
  repeat (go_quiet (fail); go_wp2_with fail)
  refine (impl_within.calls op 6 9 false _ bw).mono ?_
  rintro e v1 ⟨rfl, hb⟩
  have M1 := Aside0.mk (M0.out.step hb.below); clear hb za zb zz fz M0
  have za := M1.out.box (.tail _ (.tail _ (.head _))); have zb := M1.out.box (.tail _ (.head _)); have zz := M1.out.box (.head _); have fz := M1.out.free (.head _)
  go_wp2
  have M9 := Aside0.mk ((((M1.out.set (A := []) 0 (.int .i64 (0)) rfl).set (A := []) 1 (.int .u64 (0)) rfl).set (A := []) 2 (.string ((⟨#[]⟩ : ByteArray))) rfl).set (A := []) 3 (.int .i64 (0)) rfl)
  refine bodyPost_ret (results_ct rfl _ _ (w.heap.size + 1 + 1) 37 #[.int .i64 (0), .int .u64 (0), .string ((⟨#[]⟩ : ByteArray)), .int .i64 (0)] (0, 0) _ rfl (M9.out.blk (.head _)) Try.underlying37 rfl (by kernel_rfl)) rfl ?_
  exact ⟨by rw [HR.out]; rfl, M9.out.below⟩
set_option maxHeartbeats 8000000 in
set_option maxRecDepth 100000 in
theorem i_type_oo_true (op k1 n1 r1 k2 n2 r2 : Int) (t1 t2 : ByteArray) (w : World) (hn1 : 0 ≤ n1 ∧ n1 < 18446744073709551616) (hn2 : 0 ≤ n2 ∧ n2 < 18446744073709551616) (hs1 : t1.size ≤ 1048576) (hs2 : t2.size ≤ 1048576) (a0 : (k1 == 2) = false) (a2 : (k1 == 3) = false) (b0 : (op == 10) = false) (b1 : (op == 11) = false) (bw : impl_within.f op 6 9 = some true)
    (hres : binV op k1 n1 t1 r1 k2 n2 t2 r2 = (0, 0, (⟨#[]⟩ : ByteArray), 0, (⟨#[116, 121, 112, 101]⟩ : ByteArray))) :
    Calls Try.prog 23 #[.int .i64 op, .agg #[.int .i64 k1, .int .u64 n1, .string t1, .int .i64 r1], .agg #[.int .i64 k2, .int .u64 n2, .string t2, .int .i64 r2]] w fun e w' => e = .returned (.tuple #[.agg #[.int .i64 (binV op k1 n1 t1 r1 k2 n2 t2 r2).1, .int .u64 (binV op k1 n1 t1 r1 k2 n2 t2 r2).2.1, .string (binV op k1 n1 t1 r1 k2 n2 t2 r2).2.2.1, .int .i64 (binV op k1 n1 t1 r1 k2 n2 t2 r2).2.2.2.1], .string (binV op k1 n1 t1 r1 k2 n2 t2 r2).2.2.2.2]) ∧ Below w.heap.size w w' := by
  have hu := Try.underlying37
  have HR := Aside0.mk hres; clear hres
  have M0 := Aside0.mk ((((Mem.start w).allocAt (g := w.heap.size) rfl #[.int .i64 k1, .int .u64 n1, .string t1, .int .i64 r1] 37).allocAt (g := w.heap.size + 1) (by simp) #[.int .i64 k2, .int .u64 n2, .string t2, .int .i64 r2] 37).allocAt (g := w.heap.size + 1 + 1) (by simp) #[.int .i64 0, .int .u64 0, .string (⟨#[]⟩ : ByteArray), .int .i64 0] 37)
  have za := M0.out.box (.tail _ (.tail _ (.head _))); have zb := M0.out.box (.tail _ (.head _)); have zz := M0.out.box (.head _); have fz := M0.out.free (.head _)
  go_enter Try.func23, Try.ntmps23
  go_wp2_with fail
  repeat (go_quiet (fail); go_wp2_with fail)
  refine (impl_within.calls op 6 9 true _ bw).mono ?_
  rintro e v1 ⟨rfl, hb⟩
  have M1 := Aside0.mk (M0.out.step hb.below); clear hb za zb zz fz M0
  have za := M1.out.box (.tail _ (.tail _ (.head _))); have zb := M1.out.box (.tail _ (.head _)); have zz := M1.out.box (.head _); have fz := M1.out.free (.head _)
  go_wp2
  have M9 := Aside0.mk ((((M1.out.set (A := []) 0 (.int .i64 (0)) rfl).set (A := []) 1 (.int .u64 (0)) rfl).set (A := []) 2 (.string ((⟨#[]⟩ : ByteArray))) rfl).set (A := []) 3 (.int .i64 (0)) rfl)
  refine bodyPost_ret (results_ct rfl _ _ (w.heap.size + 1 + 1) 37 #[.int .i64 (0), .int .u64 (0), .string ((⟨#[]⟩ : ByteArray)), .int .i64 (0)] (0, 0) _ rfl (M9.out.blk (.head _)) Try.underlying37 rfl (by kernel_rfl)) rfl ?_
  exact ⟨by rw [HR.out]; rfl, M9.out.below⟩
set_option maxHeartbeats 8000000 in
set_option maxRecDepth 100000 in
theorem i_type_oo_false (op k1 n1 r1 k2 n2 r2 : Int) (t1 t2 : ByteArray) (w : World) (hn1 : 0 ≤ n1 ∧ n1 < 18446744073709551616) (hn2 : 0 ≤ n2 ∧ n2 < 18446744073709551616) (hs1 : t1.size ≤ 1048576) (hs2 : t2.size ≤ 1048576) (a0 : (k1 == 2) = false) (a2 : (k1 == 3) = false) (b0 : (op == 10) = false) (b1 : (op == 11) = false) (bw : impl_within.f op 6 9 = some false)
    (hres : binV op k1 n1 t1 r1 k2 n2 t2 r2 = (0, 0, (⟨#[]⟩ : ByteArray), 0, (⟨#[116, 121, 112, 101]⟩ : ByteArray))) :
    Calls Try.prog 23 #[.int .i64 op, .agg #[.int .i64 k1, .int .u64 n1, .string t1, .int .i64 r1], .agg #[.int .i64 k2, .int .u64 n2, .string t2, .int .i64 r2]] w fun e w' => e = .returned (.tuple #[.agg #[.int .i64 (binV op k1 n1 t1 r1 k2 n2 t2 r2).1, .int .u64 (binV op k1 n1 t1 r1 k2 n2 t2 r2).2.1, .string (binV op k1 n1 t1 r1 k2 n2 t2 r2).2.2.1, .int .i64 (binV op k1 n1 t1 r1 k2 n2 t2 r2).2.2.2.1], .string (binV op k1 n1 t1 r1 k2 n2 t2 r2).2.2.2.2]) ∧ Below w.heap.size w w' := by
  have hu := Try.underlying37
  have HR := Aside0.mk hres; clear hres
  have M0 := Aside0.mk ((((Mem.start w).allocAt (g := w.heap.size) rfl #[.int .i64 k1, .int .u64 n1, .string t1, .int .i64 r1] 37).allocAt (g := w.heap.size + 1) (by simp) #[.int .i64 k2, .int .u64 n2, .string t2, .int .i64 r2] 37).allocAt (g := w.heap.size + 1 + 1) (by simp) #[.int .i64 0, .int .u64 0, .string (⟨#[]⟩ : ByteArray), .int .i64 0] 37)
  have za := M0.out.box (.tail _ (.tail _ (.head _))); have zb := M0.out.box (.tail _ (.head _)); have zz := M0.out.box (.head _); have fz := M0.out.free (.head _)
  go_enter Try.func23, Try.ntmps23
  go_wp2_with fail
  repeat (go_quiet (fail); go_wp2_with fail)
  refine (impl_within.calls op 6 9 false _ bw).mono ?_
  rintro e v1 ⟨rfl, hb⟩
  have M1 := Aside0.mk (M0.out.step hb.below); clear hb za zb zz fz M0
  have za := M1.out.box (.tail _ (.tail _ (.head _))); have zb := M1.out.box (.tail _ (.head _)); have zz := M1.out.box (.head _); have fz := M1.out.free (.head _)
  go_wp2
  have M9 := Aside0.mk ((((M1.out.set (A := []) 0 (.int .i64 (0)) rfl).set (A := []) 1 (.int .u64 (0)) rfl).set (A := []) 2 (.string ((⟨#[]⟩ : ByteArray))) rfl).set (A := []) 3 (.int .i64 (0)) rfl)
  refine bodyPost_ret (results_ct rfl _ _ (w.heap.size + 1 + 1) 37 #[.int .i64 (0), .int .u64 (0), .string ((⟨#[]⟩ : ByteArray)), .int .i64 (0)] (0, 0) _ rfl (M9.out.blk (.head _)) Try.underlying37 rfl (by kernel_rfl)) rfl ?_
  exact ⟨by rw [HR.out]; rfl, M9.out.below⟩
set_option maxHeartbeats 8000000 in
set_option maxRecDepth 100000 in
theorem i_type_33 (op k1 n1 r1 k2 n2 r2 : Int) (t1 t2 : ByteArray) (w : World) (hn1 : 0 ≤ n1 ∧ n1 < 18446744073709551616) (hn2 : 0 ≤ n2 ∧ n2 < 18446744073709551616) (hs1 : t1.size ≤ 1048576) (hs2 : t2.size ≤ 1048576) (a0 : (k1 == 2) = false) (a2 : (k1 == 3) = true) (a3 : (k2 == 3) = true) (b0 : (op == 10) = false) (b1 : (op == 11) = false) (b2 : (op == 1) = false) (bw : impl_within.f op 6 9 = some false)
    (hres : binV op k1 n1 t1 r1 k2 n2 t2 r2 = (0, 0, (⟨#[]⟩ : ByteArray), 0, (⟨#[116, 121, 112, 101]⟩ : ByteArray))) :
    Calls Try.prog 23 #[.int .i64 op, .agg #[.int .i64 k1, .int .u64 n1, .string t1, .int .i64 r1], .agg #[.int .i64 k2, .int .u64 n2, .string t2, .int .i64 r2]] w fun e w' => e = .returned (.tuple #[.agg #[.int .i64 (binV op k1 n1 t1 r1 k2 n2 t2 r2).1, .int .u64 (binV op k1 n1 t1 r1 k2 n2 t2 r2).2.1, .string (binV op k1 n1 t1 r1 k2 n2 t2 r2).2.2.1, .int .i64 (binV op k1 n1 t1 r1 k2 n2 t2 r2).2.2.2.1], .string (binV op k1 n1 t1 r1 k2 n2 t2 r2).2.2.2.2]) ∧ Below w.heap.size w w' := by
  have hu := Try.underlying37
  have HR := Aside0.mk hres; clear hres
  have M0 := Aside0.mk ((((Mem.start w).allocAt (g := w.heap.size) rfl #[.int .i64 k1, .int .u64 n1, .string t1, .int .i64 r1] 37).allocAt (g := w.heap.size + 1) (by simp) #[.int .i64 k2, .int .u64 n2, .string t2, .int .i64 r2] 37).allocAt (g := w.heap.size + 1 + 1) (by simp) #[.int .i64 0, .int .u64 0, .string (⟨#[]⟩ : ByteArray), .int .i64 0] 37)
  have za := M0.out.box (.tail _ (.tail _ (.head _))); have zb := M0.out.box (.tail _ (.head _)); have zz := M0.out.box (.head _); have fz := M0.out.free (.head _)
  go_enter Try.func23, Try.ntmps23
  go_wp2_with fail
  repeat (go_quiet (fail); go_wp2_with fail)
  refine (impl_within.calls op 6 9 false _ bw).mono ?_
  rintro e v1 ⟨rfl, hb⟩
  have M1 := Aside0.mk (M0.out.step hb.below); clear hb za zb zz fz M0
  have za := M1.out.box (.tail _ (.tail _ (.head _))); have zb := M1.out.box (.tail _ (.head _)); have zz := M1.out.box (.head _); have fz := M1.out.free (.head _)
  go_wp2_with fail
  repeat (go_quiet (fail); go_wp2_with fail)
  have M9 := Aside0.mk ((((M1.out.set (A := []) 0 (.int .i64 (0)) rfl).set (A := []) 1 (.int .u64 (0)) rfl).set (A := []) 2 (.string ((⟨#[]⟩ : ByteArray))) rfl).set (A := []) 3 (.int .i64 (0)) rfl)
  refine bodyPost_ret (results_ct rfl _ _ (w.heap.size + 1 + 1) 37 #[.int .i64 (0), .int .u64 (0), .string ((⟨#[]⟩ : ByteArray)), .int .i64 (0)] (0, 0) _ rfl (M9.out.blk (.head _)) Try.underlying37 rfl (by kernel_rfl)) rfl ?_
  exact ⟨by rw [HR.out]; rfl, M9.out.below⟩
set_option maxHeartbeats 8000000 in
set_option maxRecDepth 100000 in
theorem i_in_33 (op k1 n1 r1 k2 n2 r2 : Int) (t1 t2 : ByteArray) (w : World) (hn1 : 0 ≤ n1 ∧ n1 < 18446744073709551616) (hn2 : 0 ≤ n2 ∧ n2 < 18446744073709551616) (hs1 : t1.size ≤ 1048576) (hs2 : t2.size ≤ 1048576) (a0 : (k1 == 2) = false) (a2 : (k1 == 3) = true) (a3 : (k2 == 3) = true) (b0 : (op == 10) = false) (b1 : (op == 11) = false) (bw : impl_within.f op 6 9 = some true)
    (hres : binV op k1 n1 t1 r1 k2 n2 t2 r2 = (1, bn (ordV op (Op.bytesLess t1.toList t2.toList) (t1.toList == t2.toList) (!Op.bytesLess t1.toList t2.toList && !(t1.toList == t2.toList))), (⟨#[]⟩ : ByteArray), 0, (⟨#[]⟩ : ByteArray))) :
    Calls Try.prog 23 #[.int .i64 op, .agg #[.int .i64 k1, .int .u64 n1, .string t1, .int .i64 r1], .agg #[.int .i64 k2, .int .u64 n2, .string t2, .int .i64 r2]] w fun e w' => e = .returned (.tuple #[.agg #[.int .i64 (binV op k1 n1 t1 r1 k2 n2 t2 r2).1, .int .u64 (binV op k1 n1 t1 r1 k2 n2 t2 r2).2.1, .string (binV op k1 n1 t1 r1 k2 n2 t2 r2).2.2.1, .int .i64 (binV op k1 n1 t1 r1 k2 n2 t2 r2).2.2.2.1], .string (binV op k1 n1 t1 r1 k2 n2 t2 r2).2.2.2.2]) ∧ Below w.heap.size w w' := by
  have hu := Try.underlying37
  have HR := Aside0.mk hres; clear hres
  have M0 := Aside0.mk ((((Mem.start w).allocAt (g := w.heap.size) rfl #[.int .i64 k1, .int .u64 n1, .string t1, .int .i64 r1] 37).allocAt (g := w.heap.size + 1) (by simp) #[.int .i64 k2, .int .u64 n2, .string t2, .int .i64 r2] 37).allocAt (g := w.heap.size + 1 + 1) (by simp) #[.int .i64 0, .int .u64 0, .string (⟨#[]⟩ : ByteArray), .int .i64 0] 37)
  have za := M0.out.box (.tail _ (.tail _ (.head _))); have zb := M0.out.box (.tail _ (.head _)); have zz := M0.out.box (.head _); have fz := M0.out.free (.head _)
  go_enter Try.func23, Try.ntmps23
  go_wp2_with fail
  repeat (go_quiet (fail); go_wp2_with fail)
  refine (impl_within.calls op 6 9 true _ bw).mono ?_
  rintro e v1 ⟨rfl, hb⟩
  have M1 := Aside0.mk (M0.out.step hb.below); clear hb za zb zz fz M0
  have za := M1.out.box (.tail _ (.tail _ (.head _))); have zb := M1.out.box (.tail _ (.head _)); have zz := M1.out.box (.head _); have fz := M1.out.free (.head _)
  go_wp2_with fail
  repeat (go_quiet (fail); go_wp2_with fail)
  refine (ordI op _ _ _ _).mono ?_
  rintro e v2 ⟨rfl, hb⟩
  have M2 := Aside0.mk (M1.out.step hb); clear hb za zb zz fz M1
  have za := M2.out.box (.tail _ (.tail _ (.head _))); have zb := M2.out.box (.tail _ (.head _)); have zz := M2.out.box (.head _); have fz := M2.out.free (.head _)
  go_wp2
  have M9 := Aside0.mk ((((M2.out.set (A := []) 0 (.int .i64 (1)) rfl).set (A := []) 1 (.int .u64 (bn (ordV op (Op.bytesLess t1.toList t2.toList) (t1.toList == t2.toList) (!Op.bytesLess t1.toList t2.toList && !(t1.toList == t2.toList))))) rfl).set (A := []) 2 (.string ((⟨#[]⟩ : ByteArray))) rfl).set (A := []) 3 (.int .i64 (0)) rfl)
  refine bodyPost_ret (results_ct rfl _ _ (w.heap.size + 1 + 1) 37 #[.int .i64 (1), .int .u64 (bn (ordV op (Op.bytesLess t1.toList t2.toList) (t1.toList == t2.toList) (!Op.bytesLess t1.toList t2.toList && !(t1.toList == t2.toList)))), .string ((⟨#[]⟩ : ByteArray)), .int .i64 (0)] (0, 0) _ rfl (M9.out.blk (.head _)) Try.underlying37 rfl (by kernel_rfl)) rfl ?_
  exact ⟨by rw [HR.out]; rfl, M9.out.below⟩
set_option maxHeartbeats 8000000 in
set_option maxRecDepth 100000 in
theorem i_long_33 (op k1 n1 r1 k2 n2 r2 : Int) (t1 t2 : ByteArray) (w : World) (hn1 : 0 ≤ n1 ∧ n1 < 18446744073709551616) (hn2 : 0 ≤ n2 ∧ n2 < 18446744073709551616) (hs1 : t1.size ≤ 1048576) (hs2 : t2.size ≤ 1048576) (a0 : (k1 == 2) = false) (a2 : (k1 == 3) = true) (a3 : (k2 == 3) = true) (b0 : (op == 10) = false) (b1 : (op == 11) = false) (b2 : (op == 1) = true) (bw : impl_within.f op 6 9 = some false) (hl : 200 < (t1.size : Int) + (t2.size : Int))
    (hres : binV op k1 n1 t1 r1 k2 n2 t2 r2 = (0, 0, (⟨#[]⟩ : ByteArray), 0, (⟨#[108, 111, 110, 103]⟩ : ByteArray))) :
    Calls Try.prog 23 #[.int .i64 op, .agg #[.int .i64 k1, .int .u64 n1, .string t1, .int .i64 r1], .agg #[.int .i64 k2, .int .u64 n2, .string t2, .int .i64 r2]] w fun e w' => e = .returned (.tuple #[.agg #[.int .i64 (binV op k1 n1 t1 r1 k2 n2 t2 r2).1, .int .u64 (binV op k1 n1 t1 r1 k2 n2 t2 r2).2.1, .string (binV op k1 n1 t1 r1 k2 n2 t2 r2).2.2.1, .int .i64 (binV op k1 n1 t1 r1 k2 n2 t2 r2).2.2.2.1], .string (binV op k1 n1 t1 r1 k2 n2 t2 r2).2.2.2.2]) ∧ Below w.heap.size w w' := by
  have hu := Try.underlying37
  have HR := Aside0.mk hres; clear hres
  have M0 := Aside0.mk ((((Mem.start w).allocAt (g := w.heap.size) rfl #[.int .i64 k1, .int .u64 n1, .string t1, .int .i64 r1] 37).allocAt (g := w.heap.size + 1) (by simp) #[.int .i64 k2, .int .u64 n2, .string t2, .int .i64 r2] 37).allocAt (g := w.heap.size + 1 + 1) (by simp) #[.int .i64 0, .int .u64 0, .string (⟨#[]⟩ : ByteArray), .int .i64 0] 37)
  have za := M0.out.box (.tail _ (.tail _ (.head _))); have zb := M0.out.box (.tail _ (.head _)); have zz := M0.out.box (.head _); have fz := M0.out.free (.head _)
  go_enter Try.func23, Try.ntmps23
  go_wp2_with fail
  repeat (go_quiet (fail); go_wp2_with fail)
  refine (impl_within.calls op 6 9 false _ bw).mono ?_
  rintro e v1 ⟨rfl, hb⟩
  have M1 := Aside0.mk (M0.out.step hb.below); clear hb za zb zz fz M0
  have za := M1.out.box (.tail _ (.tail _ (.head _))); have zb := M1.out.box (.tail _ (.head _)); have zz := M1.out.box (.head _); have fz := M1.out.free (.head _)
  have z2 : (t1.size : Int) ≤ 1048576 := by omega
  have z4 : (t2.size : Int) ≤ 1048576 := by omega
  go_wp2_with fail
  repeat (go_quiet (fail); go_wp2_with fail)
  have M9 := Aside0.mk ((((M1.out.set (A := []) 0 (.int .i64 (0)) rfl).set (A := []) 1 (.int .u64 (0)) rfl).set (A := []) 2 (.string ((⟨#[]⟩ : ByteArray))) rfl).set (A := []) 3 (.int .i64 (0)) rfl)
  refine bodyPost_ret (results_ct rfl _ _ (w.heap.size + 1 + 1) 37 #[.int .i64 (0), .int .u64 (0), .string ((⟨#[]⟩ : ByteArray)), .int .i64 (0)] (0, 0) _ rfl (M9.out.blk (.head _)) Try.underlying37 rfl (by kernel_rfl)) rfl ?_
  exact ⟨by rw [HR.out]; rfl, M9.out.below⟩
set_option maxHeartbeats 8000000 in
set_option maxRecDepth 100000 in
theorem i_cat_33 (op k1 n1 r1 k2 n2 r2 : Int) (t1 t2 : ByteArray) (w : World) (hn1 : 0 ≤ n1 ∧ n1 < 18446744073709551616) (hn2 : 0 ≤ n2 ∧ n2 < 18446744073709551616) (hs1 : t1.size ≤ 1048576) (hs2 : t2.size ≤ 1048576) (a0 : (k1 == 2) = false) (a2 : (k1 == 3) = true) (a3 : (k2 == 3) = true) (b0 : (op == 10) = false) (b1 : (op == 11) = false) (b2 : (op == 1) = true) (bw : impl_within.f op 6 9 = some false) (hl : ¬ 200 < (t1.size : Int) + (t2.size : Int))
    (hres : binV op k1 n1 t1 r1 k2 n2 t2 r2 = (3, 0, t1 ++ t2, 0, (⟨#[]⟩ : ByteArray))) :
    Calls Try.prog 23 #[.int .i64 op, .agg #[.int .i64 k1, .int .u64 n1, .string t1, .int .i64 r1], .agg #[.int .i64 k2, .int .u64 n2, .string t2, .int .i64 r2]] w fun e w' => e = .returned (.tuple #[.agg #[.int .i64 (binV op k1 n1 t1 r1 k2 n2 t2 r2).1, .int .u64 (binV op k1 n1 t1 r1 k2 n2 t2 r2).2.1, .string (binV op k1 n1 t1 r1 k2 n2 t2 r2).2.2.1, .int .i64 (binV op k1 n1 t1 r1 k2 n2 t2 r2).2.2.2.1], .string (binV op k1 n1 t1 r1 k2 n2 t2 r2).2.2.2.2]) ∧ Below w.heap.size w w' := by
  have hu := Try.underlying37
  have HR := Aside0.mk hres; clear hres
  have M0 := Aside0.mk ((((Mem.start w).allocAt (g := w.heap.size) rfl #[.int .i64 k1, .int .u64 n1, .string t1, .int .i64 r1] 37).allocAt (g := w.heap.size + 1) (by simp) #[.int .i64 k2, .int .u64 n2, .string t2, .int .i64 r2] 37).allocAt (g := w.heap.size + 1 + 1) (by simp) #[.int .i64 0, .int .u64 0, .string (⟨#[]⟩ : ByteArray), .int .i64 0] 37)
  have za := M0.out.box (.tail _ (.tail _ (.head _))); have zb := M0.out.box (.tail _ (.head _)); have zz := M0.out.box (.head _); have fz := M0.out.free (.head _)
  go_enter Try.func23, Try.ntmps23
  go_wp2_with fail
  repeat (go_quiet (fail); go_wp2_with fail)
  refine (impl_within.calls op 6 9 false _ bw).mono ?_
  rintro e v1 ⟨rfl, hb⟩
  have M1 := Aside0.mk (M0.out.step hb.below); clear hb za zb zz fz M0
  have za := M1.out.box (.tail _ (.tail _ (.head _))); have zb := M1.out.box (.tail _ (.head _)); have zz := M1.out.box (.head _); have fz := M1.out.free (.head _)
  have z2 : (t1.size : Int) ≤ 1048576 := by omega
  have z4 : (t2.size : Int) ≤ 1048576 := by omega
  go_wp2_with fail
  repeat (go_quiet (fail); go_wp2_with fail)
  refine (textI _ _).mono ?_
  rintro e v2 ⟨rfl, hb⟩
  have M2 := Aside0.mk (M1.out.step hb); clear hb za zb zz fz M1
  have za := M2.out.box (.tail _ (.tail _ (.head _))); have zb := M2.out.box (.tail _ (.head _)); have zz := M2.out.box (.head _); have fz := M2.out.free (.head _)
  go_wp2
  have M9 := Aside0.mk ((((M2.out.set (A := []) 0 (.int .i64 (3)) rfl).set (A := []) 1 (.int .u64 (0)) rfl).set (A := []) 2 (.string (t1 ++ t2)) rfl).set (A := []) 3 (.int .i64 (0)) rfl)
  refine bodyPost_ret (results_ct rfl _ _ (w.heap.size + 1 + 1) 37 #[.int .i64 (3), .int .u64 (0), .string (t1 ++ t2), .int .i64 (0)] (0, 0) _ rfl (M9.out.blk (.head _)) Try.underlying37 rfl (by kernel_rfl)) rfl ?_
  exact ⟨by rw [HR.out]; rfl, M9.out.below⟩
set_option maxHeartbeats 8000000 in
set_option maxRecDepth 100000 in
theorem i_num_ok (op k1 n1 r1 k2 n2 r2 : Int) (t1 t2 : ByteArray) (w : World) (hn1 : 0 ≤ n1 ∧ n1 < 18446744073709551616) (hn2 : 0 ≤ n2 ∧ n2 < 18446744073709551616) (hs1 : t1.size ≤ 1048576) (hs2 : t2.size ≤ 1048576) (a0 : (k1 == 2) = true) (a1 : (k2 == 2) = true) (a2 : (k1 == 3) = false) (a3 : (k2 == 3) = false) (b0 : (op == 10) = false) (b1 : (op == 11) = false) (bw : impl_within.f op 6 9 = some false) (x : Int) (hv : numV op n1 n2 = some x)
    (hres : binV op k1 n1 t1 r1 k2 n2 t2 r2 = (2, x, (⟨#[]⟩ : ByteArray), 0, (⟨#[]⟩ : ByteArray))) :
    Calls Try.prog 23 #[.int .i64 op, .agg #[.int .i64 k1, .int .u64 n1, .string t1, .int .i64 r1], .agg #[.int .i64 k2, .int .u64 n2, .string t2, .int .i64 r2]] w fun e w' => e = .returned (.tuple #[.agg #[.int .i64 (binV op k1 n1 t1 r1 k2 n2 t2 r2).1, .int .u64 (binV op k1 n1 t1 r1 k2 n2 t2 r2).2.1, .string (binV op k1 n1 t1 r1 k2 n2 t2 r2).2.2.1, .int .i64 (binV op k1 n1 t1 r1 k2 n2 t2 r2).2.2.2.1], .string (binV op k1 n1 t1 r1 k2 n2 t2 r2).2.2.2.2]) ∧ Below w.heap.size w w' := by
  have hu := Try.underlying37
  have HR := Aside0.mk hres; clear hres
  have M0 := Aside0.mk ((((Mem.start w).allocAt (g := w.heap.size) rfl #[.int .i64 k1, .int .u64 n1, .string t1, .int .i64 r1] 37).allocAt (g := w.heap.size + 1) (by simp) #[.int .i64 k2, .int .u64 n2, .string t2, .int .i64 r2] 37).allocAt (g := w.heap.size + 1 + 1) (by simp) #[.int .i64 0, .int .u64 0, .string (⟨#[]⟩ : ByteArray), .int .i64 0] 37)
  have za := M0.out.box (.tail _ (.tail _ (.head _))); have zb := M0.out.box (.tail _ (.head _)); have zz := M0.out.box (.head _); have fz := M0.out.free (.head _)
  go_enter Try.func23, Try.ntmps23
  go_wp2_with fail
  repeat (go_quiet (fail); go_wp2_with fail)
  refine (impl_within.calls op 6 9 false _ bw).mono ?_
  rintro e v1 ⟨rfl, hb⟩
  have M1 := Aside0.mk (M0.out.step hb.below); clear hb za zb zz fz M0
  have za := M1.out.box (.tail _ (.tail _ (.head _))); have zb := M1.out.box (.tail _ (.head _)); have zz := M1.out.box (.head _); have fz := M1.out.free (.head _)
  go_wp2_with fail
  repeat (go_quiet (fail); go_wp2_with fail)
  have hr : recV op n1 n2 = (x, true) := by unfold recV; rw [hv]
  have C := fun w => reckonI op n1 n2 hn1 hn2 w
  rw [hr] at C
  have HVV := Aside0.mk hv; clear hv hr
  refine (C _).mono ?_
  rintro e v2 ⟨rfl, hb⟩
  have M2 := Aside0.mk (M1.out.step hb); clear hb za zb zz fz M1
  have za := M2.out.box (.tail _ (.tail _ (.head _))); have zb := M2.out.box (.tail _ (.head _)); have zz := M2.out.box (.head _); have fz := M2.out.free (.head _)
  clear C
  go_wp2_with fail
  repeat (go_quiet (fail); go_wp2_with fail)
  refine (numI _ _).mono ?_
  rintro e v3 ⟨rfl, hb⟩
  have M3 := Aside0.mk (M2.out.step hb); clear hb za zb zz fz M2
  have za := M3.out.box (.tail _ (.tail _ (.head _))); have zb := M3.out.box (.tail _ (.head _)); have zz := M3.out.box (.head _); have fz := M3.out.free (.head _)
  go_wp2
  have M9 := Aside0.mk ((((M3.out.set (A := []) 0 (.int .i64 (2)) rfl).set (A := []) 1 (.int .u64 (x)) rfl).set (A := []) 2 (.string ((⟨#[]⟩ : ByteArray))) rfl).set (A := []) 3 (.int .i64 (0)) rfl)
  refine bodyPost_ret (results_ct rfl _ _ (w.heap.size + 1 + 1) 37 #[.int .i64 (2), .int .u64 (x), .string ((⟨#[]⟩ : ByteArray)), .int .i64 (0)] (0, 0) _ rfl (M9.out.blk (.head _)) Try.underlying37 rfl (by kernel_rfl)) rfl ?_
  exact ⟨by rw [HR.out]; rfl, M9.out.below⟩
set_option maxHeartbeats 8000000 in
set_option maxRecDepth 100000 in
theorem i_num_no (op k1 n1 r1 k2 n2 r2 : Int) (t1 t2 : ByteArray) (w : World) (hn1 : 0 ≤ n1 ∧ n1 < 18446744073709551616) (hn2 : 0 ≤ n2 ∧ n2 < 18446744073709551616) (hs1 : t1.size ≤ 1048576) (hs2 : t2.size ≤ 1048576) (a0 : (k1 == 2) = true) (a1 : (k2 == 2) = true) (a2 : (k1 == 3) = false) (a3 : (k2 == 3) = false) (b0 : (op == 10) = false) (b1 : (op == 11) = false) (bw : impl_within.f op 6 9 = some false) (hv : numV op n1 n2 = none)
    (hres : binV op k1 n1 t1 r1 k2 n2 t2 r2 = (0, 0, (⟨#[]⟩ : ByteArray), 0, (⟨#[116, 121, 112, 101]⟩ : ByteArray))) :
    Calls Try.prog 23 #[.int .i64 op, .agg #[.int .i64 k1, .int .u64 n1, .string t1, .int .i64 r1], .agg #[.int .i64 k2, .int .u64 n2, .string t2, .int .i64 r2]] w fun e w' => e = .returned (.tuple #[.agg #[.int .i64 (binV op k1 n1 t1 r1 k2 n2 t2 r2).1, .int .u64 (binV op k1 n1 t1 r1 k2 n2 t2 r2).2.1, .string (binV op k1 n1 t1 r1 k2 n2 t2 r2).2.2.1, .int .i64 (binV op k1 n1 t1 r1 k2 n2 t2 r2).2.2.2.1], .string (binV op k1 n1 t1 r1 k2 n2 t2 r2).2.2.2.2]) ∧ Below w.heap.size w w' := by
  have hu := Try.underlying37
  have HR := Aside0.mk hres; clear hres
  have M0 := Aside0.mk ((((Mem.start w).allocAt (g := w.heap.size) rfl #[.int .i64 k1, .int .u64 n1, .string t1, .int .i64 r1] 37).allocAt (g := w.heap.size + 1) (by simp) #[.int .i64 k2, .int .u64 n2, .string t2, .int .i64 r2] 37).allocAt (g := w.heap.size + 1 + 1) (by simp) #[.int .i64 0, .int .u64 0, .string (⟨#[]⟩ : ByteArray), .int .i64 0] 37)
  have za := M0.out.box (.tail _ (.tail _ (.head _))); have zb := M0.out.box (.tail _ (.head _)); have zz := M0.out.box (.head _); have fz := M0.out.free (.head _)
  go_enter Try.func23, Try.ntmps23
  go_wp2_with fail
  repeat (go_quiet (fail); go_wp2_with fail)
  refine (impl_within.calls op 6 9 false _ bw).mono ?_
  rintro e v1 ⟨rfl, hb⟩
  have M1 := Aside0.mk (M0.out.step hb.below); clear hb za zb zz fz M0
  have za := M1.out.box (.tail _ (.tail _ (.head _))); have zb := M1.out.box (.tail _ (.head _)); have zz := M1.out.box (.head _); have fz := M1.out.free (.head _)
  go_wp2_with fail
  repeat (go_quiet (fail); go_wp2_with fail)
  have hr : recV op n1 n2 = (0, false) := by unfold recV; rw [hv]
  have C := fun w => reckonI op n1 n2 hn1 hn2 w
  rw [hr] at C
  have HVV := Aside0.mk hv; clear hv hr
  refine (C _).mono ?_
  rintro e v2 ⟨rfl, hb⟩
  have M2 := Aside0.mk (M1.out.step hb); clear hb za zb zz fz M1
  have za := M2.out.box (.tail _ (.tail _ (.head _))); have zb := M2.out.box (.tail _ (.head _)); have zz := M2.out.box (.head _); have fz := M2.out.free (.head _)
  clear C
  go_wp2
  have M9 := Aside0.mk ((((M2.out.set (A := []) 0 (.int .i64 (0)) rfl).set (A := []) 1 (.int .u64 (0)) rfl).set (A := []) 2 (.string ((⟨#[]⟩ : ByteArray))) rfl).set (A := []) 3 (.int .i64 (0)) rfl)
  refine bodyPost_ret (results_ct rfl _ _ (w.heap.size + 1 + 1) 37 #[.int .i64 (0), .int .u64 (0), .string ((⟨#[]⟩ : ByteArray)), .int .i64 (0)] (0, 0) _ rfl (M9.out.blk (.head _)) Try.underlying37 rfl (by kernel_rfl)) rfl ?_
  exact ⟨by rw [HR.out]; rfl, M9.out.below⟩
set_option maxHeartbeats 8000000 in
set_option maxRecDepth 100000 in
theorem i_in_22 (op k1 n1 r1 k2 n2 r2 : Int) (t1 t2 : ByteArray) (w : World) (hn1 : 0 ≤ n1 ∧ n1 < 18446744073709551616) (hn2 : 0 ≤ n2 ∧ n2 < 18446744073709551616) (hs1 : t1.size ≤ 1048576) (hs2 : t2.size ≤ 1048576) (a0 : (k1 == 2) = true) (a1 : (k2 == 2) = true) (a2 : (k1 == 3) = false) (a3 : (k2 == 3) = false) (b0 : (op == 10) = false) (b1 : (op == 11) = false) (bw : impl_within.f op 6 9 = some true)
    (hres : binV op k1 n1 t1 r1 k2 n2 t2 r2 = (1, bn (ordV op (double.order n1.toNat n2.toNat == some .lt) (double.order n1.toNat n2.toNat == some .eq) (double.order n2.toNat n1.toNat == some .lt)), (⟨#[]⟩ : ByteArray), 0, (⟨#[]⟩ : ByteArray))) :
    Calls Try.prog 23 #[.int .i64 op, .agg #[.int .i64 k1, .int .u64 n1, .string t1, .int .i64 r1], .agg #[.int .i64 k2, .int .u64 n2, .string t2, .int .i64 r2]] w fun e w' => e = .returned (.tuple #[.agg #[.int .i64 (binV op k1 n1 t1 r1 k2 n2 t2 r2).1, .int .u64 (binV op k1 n1 t1 r1 k2 n2 t2 r2).2.1, .string (binV op k1 n1 t1 r1 k2 n2 t2 r2).2.2.1, .int .i64 (binV op k1 n1 t1 r1 k2 n2 t2 r2).2.2.2.1], .string (binV op k1 n1 t1 r1 k2 n2 t2 r2).2.2.2.2]) ∧ Below w.heap.size w w' := by
  have hu := Try.underlying37
  have HR := Aside0.mk hres; clear hres
  have M0 := Aside0.mk ((((Mem.start w).allocAt (g := w.heap.size) rfl #[.int .i64 k1, .int .u64 n1, .string t1, .int .i64 r1] 37).allocAt (g := w.heap.size + 1) (by simp) #[.int .i64 k2, .int .u64 n2, .string t2, .int .i64 r2] 37).allocAt (g := w.heap.size + 1 + 1) (by simp) #[.int .i64 0, .int .u64 0, .string (⟨#[]⟩ : ByteArray), .int .i64 0] 37)
  have za := M0.out.box (.tail _ (.tail _ (.head _))); have zb := M0.out.box (.tail _ (.head _)); have zz := M0.out.box (.head _); have fz := M0.out.free (.head _)
  go_enter Try.func23, Try.ntmps23
  go_wp2_with fail
  repeat (go_quiet (fail); go_wp2_with fail)
  refine (impl_within.calls op 6 9 true _ bw).mono ?_
  rintro e v1 ⟨rfl, hb⟩
  have M1 := Aside0.mk (M0.out.step hb.below); clear hb za zb zz fz M0
  have za := M1.out.box (.tail _ (.tail _ (.head _))); have zb := M1.out.box (.tail _ (.head _)); have zz := M1.out.box (.head _); have fz := M1.out.free (.head _)
  go_upto_region 9 with fail
  clear za zb zz fz
  have MD := Aside0.mk M1.out.drew; clear M1
  refine sz 19 (fun W => W.cell? ⟨w.heap.size, 1, none⟩ = some (.int .u64 n1) ∧ W.cell? ⟨w.heap.size + 1, 1, none⟩ = some (.int .u64 n2)) [17] dob.tab9 dob.bits9 ⟨(MD.out.box (.tail _ (.tail _ (.head _))) 1).trans rfl, (MD.out.box (.tail _ (.head _)) 1).trans rfl⟩ (fun HT_ HW_ hHeld => ?_)
  generalize v1.drew = wd at MD hHeld ⊢
  refine pz 0 51 ?_; refine pz 1 52 ?_; refine pz 3 54 ?_; refine pz 6 57 ?_; refine pz 8 59 ?_; refine pz 11 62 ?_; refine pz 13 64 ?_; refine tz 2 53 ?_; refine tz 4 55 ?_; refine tz 7 58 ?_; refine tz 9 60 ?_; refine tz 12 63 ?_; refine tz 14 65 ?_
  refine ez 5 (some 56) (fun K hK => ?_)
  refine gz Try.func51 #[.int .u64 n1, .int .u64 n2] ?_
  refine (less _ _ _).mono ?_; rintro e v ⟨rfl, rfl⟩
  refine ⟨_, rfl, ?_⟩
  refine hK.out _ _ hHeld (fun hHeld => ?_); clear hK K; refine kz (some 56) ?_
  refine ez 10 (some 61) (fun K hK => ?_)
  refine gz Try.func52 #[.int .u64 n1, .int .u64 n2] ?_
  refine (equal _ _ _).mono ?_; rintro e v ⟨rfl, rfl⟩
  refine ⟨_, rfl, ?_⟩
  refine hK.out _ _ hHeld (fun hHeld => ?_); clear hK K; refine kz (some 61) ?_
  refine ez 15 (some 66) (fun K hK => ?_)
  refine gz Try.func51 #[.int .u64 n2, .int .u64 n1] ?_
  refine (less _ _ _).mono ?_; rintro e v ⟨rfl, rfl⟩
  refine ⟨_, rfl, ?_⟩
  refine hK.out _ _ hHeld (fun hHeld => ?_); clear hK K; refine kz (some 66) ?_
  refine ez 16 (some 67) (fun K hK => ?_)
  refine gz Try.func50 #[.int .i64 op, .bool (double.order n1.toNat n2.toNat == some .lt), .bool (double.order n1.toNat n2.toNat == some .eq), .bool (double.order n2.toNat n1.toNat == some .lt)] ?_
  refine (ordI op _ _ _ _).mono ?_; rintro e v9 ⟨rfl, hb⟩
  have MC := Aside0.mk (MD.out.step hb); clear hb MD
  have zz := MC.out.box (.head _); have fz := MC.out.free (.head _)
  refine ⟨_, rfl, ?_⟩
  refine hK.out _ _ ⟨(MC.out.box (.tail _ (.tail _ (.head _))) 1).trans rfl, (MC.out.box (.tail _ (.head _)) 1).trans rfl⟩ (fun hHeld => ?_); clear hK K; refine kz (some 67) ?_
  refine lz 17 none (fun K hK => ?_)
  refine skip_ (w1 := ?_) (by rfl) rfl ?_ ?_
  rotate_left
  · go_simp
    rfl
  refine hK.out _ _ ?_; clear hK K
  refine pz 18 7 ?_
  refine dz ?_
  go_wp2
  have M9 := Aside0.mk ((((MC.out.set (A := []) 0 (.int .i64 (1)) rfl).set (A := []) 1 (.int .u64 (bn (ordV op (double.order n1.toNat n2.toNat == some .lt) (double.order n1.toNat n2.toNat == some .eq) (double.order n2.toNat n1.toNat == some .lt)))) rfl).set (A := []) 2 (.string ((⟨#[]⟩ : ByteArray))) rfl).set (A := []) 3 (.int .i64 (0)) rfl)
  refine bodyPost_ret (results_ct rfl _ _ (w.heap.size + 1 + 1) 37 #[.int .i64 (1), .int .u64 (bn (ordV op (double.order n1.toNat n2.toNat == some .lt) (double.order n1.toNat n2.toNat == some .eq) (double.order n2.toNat n1.toNat == some .lt))), .string ((⟨#[]⟩ : ByteArray)), .int .i64 (0)] (0, 0) _ rfl (M9.out.blk (.head _)) Try.underlying37 rfl (by kernel_rfl)) rfl ?_
  exact ⟨by rw [HR.out]; rfl, M9.out.below⟩
/-- impl.DoBinary. -/
theorem doBinI (op k1 n1 r1 k2 n2 r2 : Int) (t1 t2 : ByteArray) (w : World) (hn1 : 0 ≤ n1 ∧ n1 < 18446744073709551616) (hn2 : 0 ≤ n2 ∧ n2 < 18446744073709551616) (hs1 : t1.size ≤ 1048576) (hs2 : t2.size ≤ 1048576) :
    Calls Try.prog 23 #[.int .i64 op, .agg #[.int .i64 k1, .int .u64 n1, .string t1, .int .i64 r1], .agg #[.int .i64 k2, .int .u64 n2, .string t2, .int .i64 r2]] w fun e w' => e = .returned (.tuple #[.agg #[.int .i64 (binV op k1 n1 t1 r1 k2 n2 t2 r2).1, .int .u64 (binV op k1 n1 t1 r1 k2 n2 t2 r2).2.1, .string (binV op k1 n1 t1 r1 k2 n2 t2 r2).2.2.1, .int .i64 (binV op k1 n1 t1 r1 k2 n2 t2 r2).2.2.2.1], .string (binV op k1 n1 t1 r1 k2 n2 t2 r2).2.2.2.2]) ∧ Below w.heap.size w w' := by
  have wf : ¬ (6 ≤ op ∧ op ≤ 9) → impl_within.f op 6 9 = some false := by
    intro h
    unfold impl_within.f
    by_cases c : op ≥ 6
    · rw [if_pos c, decide_eq_false (by omega)]
    · rw [if_neg c]
  have wt : 6 ≤ op ∧ op ≤ 9 → impl_within.f op 6 9 = some true := by
    intro h
    unfold impl_within.f
    rw [if_pos (by omega), decide_eq_true (by omega)]
  have eqt : ∀ {a b : Int}, a = b → (a == b) = true := fun h => beq_iff_eq.mpr h
  have eqf : ∀ {a b : Int}, ¬ a = b → (a == b) = false := fun h => beq_eq_false_iff_ne.mpr h
  by_cases a : k1 = 2
  · by_cases b : k2 = 2
    · skip
      by_cases o10 : op = 10
      · exact i_same_22 op k1 n1 r1 k2 n2 r2 t1 t2 w hn1 hn2 hs1 hs2 (eqt a) (eqt b) (eqf (by omega)) (eqf (by omega)) (eqt o10) (wf (by omega)) (by unfold binV; rw [if_pos o10]; rfl)
      by_cases o11 : op = 11
      · exact i_other_22 op k1 n1 r1 k2 n2 r2 t1 t2 w hn1 hn2 hs1 hs2 (eqt a) (eqt b) (eqf (by omega)) (eqf (by omega)) (eqf o10) (eqt o11) (wf (by omega)) (by unfold binV; rw [if_neg o10, if_pos o11]; rfl)
      by_cases o6 : 6 ≤ op ∧ op ≤ 9
      · exact i_in_22 op k1 n1 r1 k2 n2 r2 t1 t2 w hn1 hn2 hs1 hs2 (eqt a) (eqt b) (eqf (by omega)) (eqf (by omega)) (eqf o10) (eqf o11) (wt o6) (by unfold binV; rw [if_neg o10, if_neg o11, if_pos ⟨a, b⟩, if_pos o6]; rfl)
      · cases hv : numV op n1 n2 with
        | some x => exact i_num_ok op k1 n1 r1 k2 n2 r2 t1 t2 w hn1 hn2 hs1 hs2 (eqt a) (eqt b) (eqf (by omega)) (eqf (by omega)) (eqf o10) (eqf o11) (wf o6) x hv (by unfold binV; rw [if_neg o10, if_neg o11, if_pos ⟨a, b⟩, if_neg o6, hv])
        | none => exact i_num_no op k1 n1 r1 k2 n2 r2 t1 t2 w hn1 hn2 hs1 hs2 (eqt a) (eqt b) (eqf (by omega)) (eqf (by omega)) (eqf o10) (eqf o11) (wf o6) hv (by unfold binV; rw [if_neg o10, if_neg o11, if_pos ⟨a, b⟩, if_neg o6, hv]; rfl)
    · skip
      by_cases o10 : op = 10
      · exact i_same_2o op k1 n1 r1 k2 n2 r2 t1 t2 w hn1 hn2 hs1 hs2 (eqt a) (eqf b) (eqf (by omega)) (eqt o10) (wf (by omega)) (by unfold binV; rw [if_pos o10]; rfl)
      by_cases o11 : op = 11
      · exact i_other_2o op k1 n1 r1 k2 n2 r2 t1 t2 w hn1 hn2 hs1 hs2 (eqt a) (eqf b) (eqf (by omega)) (eqf o10) (eqt o11) (wf (by omega)) (by unfold binV; rw [if_neg o10, if_pos o11]; rfl)
      by_cases o6 : 6 ≤ op ∧ op ≤ 9
      · exact i_type_2o_true op k1 n1 r1 k2 n2 r2 t1 t2 w hn1 hn2 hs1 hs2 (eqt a) (eqf b) (eqf (by omega)) (eqf o10) (eqf o11) (wt o6) (by unfold binV; rw [if_neg o10, if_neg o11, if_neg (show ¬ (k1 = 2 ∧ k2 = 2) from fun h => b h.2), if_neg (show ¬ (k1 = 3 ∧ k2 = 3) from fun h => by omega)]; rfl)
      · exact i_type_2o_false op k1 n1 r1 k2 n2 r2 t1 t2 w hn1 hn2 hs1 hs2 (eqt a) (eqf b) (eqf (by omega)) (eqf o10) (eqf o11) (wf o6) (by unfold binV; rw [if_neg o10, if_neg o11, if_neg (show ¬ (k1 = 2 ∧ k2 = 2) from fun h => b h.2), if_neg (show ¬ (k1 = 3 ∧ k2 = 3) from fun h => by omega)]; rfl)
  · by_cases a3 : k1 = 3
    · by_cases b : k2 = 3
      · skip
        by_cases o10 : op = 10
        · exact i_same_33 op k1 n1 r1 k2 n2 r2 t1 t2 w hn1 hn2 hs1 hs2 (eqf a) (eqt a3) (eqt b) (eqt o10) (wf (by omega)) (by unfold binV; rw [if_pos o10]; rfl)
        by_cases o11 : op = 11
        · exact i_other_33 op k1 n1 r1 k2 n2 r2 t1 t2 w hn1 hn2 hs1 hs2 (eqf a) (eqt a3) (eqt b) (eqf o10) (eqt o11) (wf (by omega)) (by unfold binV; rw [if_neg o10, if_pos o11]; rfl)
        by_cases o6 : 6 ≤ op ∧ op ≤ 9
        · exact i_in_33 op k1 n1 r1 k2 n2 r2 t1 t2 w hn1 hn2 hs1 hs2 (eqf a) (eqt a3) (eqt b) (eqf o10) (eqf o11) (wt o6) (by unfold binV; rw [if_neg o10, if_neg o11, if_neg (show ¬ (k1 = 2 ∧ k2 = 2) from fun h => a h.1), if_pos ⟨a3, b⟩, if_pos o6]; rfl)
        by_cases o1 : op = 1
        · by_cases hl : 200 < t1.size + t2.size
          · exact i_long_33 op k1 n1 r1 k2 n2 r2 t1 t2 w hn1 hn2 hs1 hs2 (eqf a) (eqt a3) (eqt b) (eqf o10) (eqf o11) (eqt o1) (wf o6) (by omega) (by unfold binV; rw [if_neg o10, if_neg o11, if_neg (show ¬ (k1 = 2 ∧ k2 = 2) from fun h => a h.1), if_pos ⟨a3, b⟩, if_neg o6, if_pos o1, if_pos hl])
          · exact i_cat_33 op k1 n1 r1 k2 n2 r2 t1 t2 w hn1 hn2 hs1 hs2 (eqf a) (eqt a3) (eqt b) (eqf o10) (eqf o11) (eqt o1) (wf o6) (by omega) (by unfold binV; rw [if_neg o10, if_neg o11, if_neg (show ¬ (k1 = 2 ∧ k2 = 2) from fun h => a h.1), if_pos ⟨a3, b⟩, if_neg o6, if_pos o1, if_neg hl])
        · exact i_type_33 op k1 n1 r1 k2 n2 r2 t1 t2 w hn1 hn2 hs1 hs2 (eqf a) (eqt a3) (eqt b) (eqf o10) (eqf o11) (eqf o1) (wf o6) (by unfold binV; rw [if_neg o10, if_neg o11, if_neg (show ¬ (k1 = 2 ∧ k2 = 2) from fun h => a h.1), if_pos ⟨a3, b⟩, if_neg o6, if_neg o1]; rfl)
      · skip
        by_cases o10 : op = 10
        · exact i_same_3o op k1 n1 r1 k2 n2 r2 t1 t2 w hn1 hn2 hs1 hs2 (eqf a) (eqt a3) (eqf b) (eqt o10) (wf (by omega)) (by unfold binV; rw [if_pos o10]; rfl)
        by_cases o11 : op = 11
        · exact i_other_3o op k1 n1 r1 k2 n2 r2 t1 t2 w hn1 hn2 hs1 hs2 (eqf a) (eqt a3) (eqf b) (eqf o10) (eqt o11) (wf (by omega)) (by unfold binV; rw [if_neg o10, if_pos o11]; rfl)
        by_cases o6 : 6 ≤ op ∧ op ≤ 9
        · exact i_type_3o_true op k1 n1 r1 k2 n2 r2 t1 t2 w hn1 hn2 hs1 hs2 (eqf a) (eqt a3) (eqf b) (eqf o10) (eqf o11) (wt o6) (by unfold binV; rw [if_neg o10, if_neg o11, if_neg (show ¬ (k1 = 2 ∧ k2 = 2) from fun h => a h.1), if_neg (show ¬ (k1 = 3 ∧ k2 = 3) from fun h => b h.2)]; rfl)
        · exact i_type_3o_false op k1 n1 r1 k2 n2 r2 t1 t2 w hn1 hn2 hs1 hs2 (eqf a) (eqt a3) (eqf b) (eqf o10) (eqf o11) (wf o6) (by unfold binV; rw [if_neg o10, if_neg o11, if_neg (show ¬ (k1 = 2 ∧ k2 = 2) from fun h => a h.1), if_neg (show ¬ (k1 = 3 ∧ k2 = 3) from fun h => b h.2)]; rfl)
    · skip
      by_cases o10 : op = 10
      · exact i_same_oo op k1 n1 r1 k2 n2 r2 t1 t2 w hn1 hn2 hs1 hs2 (eqf a) (eqf a3) (eqt o10) (wf (by omega)) (by unfold binV; rw [if_pos o10]; rfl)
      by_cases o11 : op = 11
      · exact i_other_oo op k1 n1 r1 k2 n2 r2 t1 t2 w hn1 hn2 hs1 hs2 (eqf a) (eqf a3) (eqf o10) (eqt o11) (wf (by omega)) (by unfold binV; rw [if_neg o10, if_pos o11]; rfl)
      by_cases o6 : 6 ≤ op ∧ op ≤ 9
      · exact i_type_oo_true op k1 n1 r1 k2 n2 r2 t1 t2 w hn1 hn2 hs1 hs2 (eqf a) (eqf a3) (eqf o10) (eqf o11) (wt o6) (by unfold binV; rw [if_neg o10, if_neg o11, if_neg (show ¬ (k1 = 2 ∧ k2 = 2) from fun h => a h.1), if_neg (show ¬ (k1 = 3 ∧ k2 = 3) from fun h => a3 h.1)]; rfl)
      · exact i_type_oo_false op k1 n1 r1 k2 n2 r2 t1 t2 w hn1 hn2 hs1 hs2 (eqf a) (eqf a3) (eqf o10) (eqf o11) (wf o6) (by unfold binV; rw [if_neg o10, if_neg o11, if_neg (show ¬ (k1 = 2 ∧ k2 = 2) from fun h => a h.1), if_neg (show ¬ (k1 = 3 ∧ k2 = 3) from fun h => a3 h.1)]; rfl)
end Go.Proofs.Ytokhgodcamhibaa.Dob
end
