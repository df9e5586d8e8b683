/- Part 18 of the proof: general lemmas, contracts of functions, walks. No condition of its own. -/
import Derived.Test.YtcbaokflimdjnaaSts17
import Derived.Test.YtcbaokflimdjnaaSts2
import Derived.Test.YtcbaokflimdjnaaSts11
import Derived.Test.YtcbaokflimdjnaaSts7
import Derived.Test.YtcbaokflimdjnaaSts5
section
namespace Go.Proofs.Ytcbaokflimdjnaa.QFnExactVerify
open Go.RowKit Go.Proofs.YtcbaokflimdjnaaW.PrintWords Go.Proofs.YtcbaokflimdjnaaW.PrintLast Go.Proofs.YtcbaokflimdjnaaW.PrintMore
attribute [local go_sem] max_two min_two max_three min_three max_four min_four run_field194_0 max2_mx min2_mn   -- for this text's walks alone
set_option linter.unusedVariables false
set_option linter.unusedSimpArgs false
mutual
def spec_PartsOfNumber.j0 : Nat → Int → Int → Bool → Int → Bool → Int → Int → Option (Int × Bool × Int × Int)
  | 0, _, _, _, _, _, _, _ => none
  | k + 1, x4, x5, x24, x228000, x228001, x228002, x228003 => if x24 = true then (some (1, false, 0, 0)) else (if x4 = 2047 then (some (2, x228001, x228002, x228003)) else (if x4 = 0 then (spec_PartsOfNumber.j1 k x4 x5 (x5 == 0) x228000 x228001 x228002 x228003) else (spec_PartsOfNumber.j1 k x4 x5 false x228000 x228001 x228002 x228003)))
def spec_PartsOfNumber.j1 : Nat → Int → Int → Bool → Int → Bool → Int → Int → Option (Int × Bool × Int × Int)
  | 0, _, _, _, _, _, _, _ => none
  | k + 1, x4, x5, x36, x228000, x228001, x228002, x228003 => if x36 = true then (some (3, x228001, x228002, x228003)) else (if x4 = 0 then (some (4, x228001, x5, (-1074))) else (some (4, x228001, IntKind.u64.wrap (x5 + 4503599627370496), wrap64 (x4 - 1075))))
end
def spec_PartsOfNumber.f (k : Nat) (a0 : Int) : Option (Int × Bool × Int × Int) := (spec_l03Pow.f k 63).bind fun t226 => (if t226 = 0 then (none) else (if (wrap64 (Int.tmod (IntKind.u64.wrap (Int.tdiv a0 4503599627370496)) 2048)) = 2047 then (spec_PartsOfNumber.j0 k (wrap64 (Int.tmod (IntKind.u64.wrap (Int.tdiv a0 4503599627370496)) 2048)) (Int.tmod a0 4503599627370496) ((Int.tmod a0 4503599627370496) != 0) 0 ((IntKind.u64.wrap (Int.tdiv a0 t226)) == 1) 0 0) else (spec_PartsOfNumber.j0 k (wrap64 (Int.tmod (IntKind.u64.wrap (Int.tdiv a0 4503599627370496)) 2048)) (Int.tmod a0 4503599627370496) false 0 ((IntKind.u64.wrap (Int.tdiv a0 t226)) == 1) 0 0)))
theorem spec_PartsOfNumber.mono_l : ∀ k, (∀ y0 y1 y2 y3 y4 y5 y6, LeO (spec_PartsOfNumber.j0 k y0 y1 y2 y3 y4 y5 y6) (spec_PartsOfNumber.j0 (k + 1) y0 y1 y2 y3 y4 y5 y6)) ∧ (∀ y0 y1 y2 y3 y4 y5 y6, LeO (spec_PartsOfNumber.j1 k y0 y1 y2 y3 y4 y5 y6) (spec_PartsOfNumber.j1 (k + 1) y0 y1 y2 y3 y4 y5 y6))
  | 0 => ⟨fun _ _ _ _ _ _ _ r h => by simp [spec_PartsOfNumber.j0] at h, fun _ _ _ _ _ _ _ r h => by simp [spec_PartsOfNumber.j1] at h⟩
  | k + 1 => by
    obtain ⟨ih0, ih1⟩ := spec_PartsOfNumber.mono_l k
    refine ⟨?_, ?_⟩
    · intro y0 y1 y2 y3 y4 y5 y6
      unfold spec_PartsOfNumber.j0
      repeat' first
      | (with_reducible exact ih0 _ _ _ _ _ _ _)
      | (with_reducible exact ih1 _ _ _ _ _ _ _)
      | (with_reducible exact spec_l03Pow.mono _ _)
      | (with_reducible exact LeO.refl _)
      | (with_reducible exact LeO.none _)
      | (with_reducible refine LeO.ite ?_ ?_)
      | (with_reducible refine LeO.bind ?_ (fun _ => ?_))
      | exact ih0 _ _ _ _ _ _ _
      | exact ih1 _ _ _ _ _ _ _
      | exact spec_l03Pow.mono _ _
      | exact LeO.none _
      | refine LeO.ite ?_ ?_
      | refine LeO.bind ?_ (fun _ => ?_)
    · intro y0 y1 y2 y3 y4 y5 y6
      unfold spec_PartsOfNumber.j1
      repeat' first
      | (with_reducible exact ih0 _ _ _ _ _ _ _)
      | (with_reducible exact ih1 _ _ _ _ _ _ _)
      | (with_reducible exact spec_l03Pow.mono _ _)
      | (with_reducible exact LeO.refl _)
      | (with_reducible exact LeO.none _)
      | (with_reducible refine LeO.ite ?_ ?_)
      | (with_reducible refine LeO.bind ?_ (fun _ => ?_))
      | exact ih0 _ _ _ _ _ _ _
      | exact ih1 _ _ _ _ _ _ _
      | exact spec_l03Pow.mono _ _
      | exact LeO.none _
      | refine LeO.ite ?_ ?_
      | refine LeO.bind ?_ (fun _ => ?_)
theorem spec_PartsOfNumber.mono : ∀ a0 k, LeO (spec_PartsOfNumber.f k a0) (spec_PartsOfNumber.f (k + 1) a0) := by
  intro a0 k
  obtain ⟨ih0, ih1⟩ := spec_PartsOfNumber.mono_l k
  unfold spec_PartsOfNumber.f
  repeat' first
      | (with_reducible exact ih0 _ _ _ _ _ _ _)
      | (with_reducible exact ih1 _ _ _ _ _ _ _)
      | (with_reducible exact spec_l03Pow.mono _ _)
      | (with_reducible exact LeO.refl _)
      | (with_reducible exact LeO.none _)
      | (with_reducible refine LeO.ite ?_ ?_)
      | (with_reducible refine LeO.bind ?_ (fun _ => ?_))
      | exact ih0 _ _ _ _ _ _ _
      | exact ih1 _ _ _ _ _ _ _
      | exact spec_l03Pow.mono _ _
      | exact LeO.none _
      | refine LeO.ite ?_ ?_
      | refine LeO.bind ?_ (fun _ => ?_)
set_option maxHeartbeats 8000000 in
set_option maxRecDepth 100000 in
theorem spec_PartsOfNumber.calls (k : Nat) (a0 : Int) (r1 : Int) (r2 : Bool) (r3 : Int) (r4 : Int) (w : World) (h : spec_PartsOfNumber.f k a0 = some (r1, r2, r3, r4)) :
    Calls Try.prog 161 #[.int .u64 a0] w fun e w' => e = .returned (.agg #[.int .i64 r1, .bool r2, .int .u64 r3, .int .i64 r4]) ∧ Below w.heap.size w w' := by
  have hu194 := Try.underlying194
  have HB := Aside0.mk (Below.refl w.heap.size w)
  have H : ((spec_l03Pow.f k 63).bind fun t226 => (if t226 = 0 then (none) else (if (wrap64 (Int.tmod (IntKind.u64.wrap (Int.tdiv a0 4503599627370496)) 2048)) = 2047 then (spec_PartsOfNumber.j0 k (wrap64 (Int.tmod (IntKind.u64.wrap (Int.tdiv a0 4503599627370496)) 2048)) (Int.tmod a0 4503599627370496) ((Int.tmod a0 4503599627370496) != 0) 0 ((IntKind.u64.wrap (Int.tdiv a0 t226)) == 1) 0 0) else (spec_PartsOfNumber.j0 k (wrap64 (Int.tmod (IntKind.u64.wrap (Int.tdiv a0 4503599627370496)) 2048)) (Int.tmod a0 4503599627370496) false 0 ((IntKind.u64.wrap (Int.tdiv a0 t226)) == 1) 0 0)))) = some (r1, r2, r3, r4) := h
  clear h
  replace H := Option.bind_eq_some_iff.mp H
  obtain ⟨t226, A20, H⟩ := H
  replace H : (if t226 = 0 then (none) else (if (wrap64 (Int.tmod (IntKind.u64.wrap (Int.tdiv a0 4503599627370496)) 2048)) = 2047 then (spec_PartsOfNumber.j0 k (wrap64 (Int.tmod (IntKind.u64.wrap (Int.tdiv a0 4503599627370496)) 2048)) (Int.tmod a0 4503599627370496) ((Int.tmod a0 4503599627370496) != 0) 0 ((IntKind.u64.wrap (Int.tdiv a0 t226)) == 1) 0 0) else (spec_PartsOfNumber.j0 k (wrap64 (Int.tmod (IntKind.u64.wrap (Int.tdiv a0 4503599627370496)) 2048)) (Int.tmod a0 4503599627370496) false 0 ((IntKind.u64.wrap (Int.tdiv a0 t226)) == 1) 0 0))) = some (r1, r2, r3, r4) := H
  have A2 := Aside0.mk A20
  clear A20
  by_cases c3 : t226 = 0
  · rw [if_pos c3] at H
    exact absurd H (by simp)
  · rw [if_neg c3] at H
    have c3b0 : (t226 == 0) = false := beq_eq_false_iff_ne.mpr c3
    have c3b1 : (t226 != 0) = true := bne_iff_ne.mpr c3
    have HC4 := Aside0.mk H
    clear H
    go_enter Try.func161, Try.ntmps161
    go_upto_region 7 with (first | ((with_reducible refine gate_dst (N := 2) rfl ?_); refine box_event ?hg (N := 2) ?hd (cs := #[.int .i64 0, .bool false, .int .u64 0, .int .i64 0]) (t := 194) ?hr ?_; (case hd => rfl); (case hg => rfl); (case hr => first | (go_simp; done) | (go_simp; rfl)); intro gb225 hg w5 hbox hb; have n0_ := Aside0.mk (below_step (by repeat (first | (with_reducible first | exact HB.out | apply below_alloc | apply pw_below_drewN | apply below_drew1) | exact HB.out)) hb); have n1_ := Aside0.mk (hbox); have n2_ := Aside0.mk ((by rw [hg]; exact (below_size (by repeat (first | (with_reducible first | exact HB.out | apply below_alloc | apply pw_below_drewN | apply below_drew1) | exact HB.out))) : w.heap.size ≤ gb225)); have n3_ := Aside0.mk ((by rw [hg]; exact (below_size (by repeat (first | (with_reducible first | exact HB.out | apply below_alloc | apply pw_below_drewN | apply below_drew1) | exact HB.out))) : w.heap.size ≤ gb225)); clear HB; have HB := n0_; have BK225 := n1_; have GW225 := n2_; have GE225 := n3_; clear n0_ n1_ n2_ n3_; clear hb hbox hg) | ((with_reducible refine gate_callee (f := 174) rfl ?_); refine goesL_ (some 7) rfl rfl Try.func174 (by kernel_rfl) rfl #[.int .i64 63] rfl (by (try simp only [List.map_toArray, List.map_cons, List.map_nil]); first | done | rfl | (simp only [List.length_drop, List.length_take]; rfl)) ?_; (with_reducible refine (spec_l03Pow.calls k 63 t226 _ A2.out).mono ?_); rintro e w' ⟨rfl, ⟨nd, rfl⟩⟩; refine ⟨_, rfl, ?_⟩; (try (rw [drewN_self w5]; generalize hq_ : World.drewN w5 _ = w5; have n0_ : Aside0 (w5.heap[gb225]? = some (.cells #[.int .i64 0, .bool false, .int .u64 0, .int .i64 0] 194 (0, 0))) := ⟨by rw [← hq_]; exact (by (with_reducible repeat (first | refine blk_drewN ?_ _ | refine blk_drew ?_ | refine blk_alloc ?_ _)); exact BK225.out)⟩; have n1_ : Aside0 (Below w.heap.size w w5) := ⟨by rw [← hq_]; exact (by repeat (first | (with_reducible first | exact HB.out | apply below_alloc | apply pw_below_drewN | apply below_drew1 | refine below_set ?_ GE225.out) | exact HB.out))⟩; clear BK225 HB hq_; have BK225 := n0_; have HB := n1_; clear n0_ n1_))) | ((with_reducible refine gate_dst (N := 3) rfl ?_); refine box_event ?hg (N := 3) ?hd (cs := #[.int .i64 0, .bool false, .int .u64 0, .int .i64 0]) (t := 194) ?hr ?_; (case hd => rfl); (case hg => rfl); (case hr => first | (go_simp; done) | (go_simp; rfl)); intro gb227 hg w6 hbox hb; have n0_ := Aside0.mk (blk_below (g := gb225) (o := .cells #[.int .i64 0, .bool false, .int .u64 0, .int .i64 0] 194 (0, 0)) (by (with_reducible repeat (first | refine blk_drewN ?_ _ | refine blk_drew ?_ | refine blk_alloc ?_ _)); exact BK225.out) hb); have n1_ := Aside0.mk (below_step (by repeat (first | (with_reducible first | exact HB.out | apply below_alloc | apply pw_below_drewN | apply below_drew1 | refine below_set ?_ GE225.out) | exact HB.out)) hb); have n2_ := Aside0.mk (hbox); have n3_ := Aside0.mk ((by rw [hg]; exact (below_size (by repeat (first | (with_reducible first | exact HB.out | apply below_alloc | apply pw_below_drewN | apply below_drew1 | refine below_set ?_ GE225.out) | exact HB.out))) : w.heap.size ≤ gb227)); have n4_ := Aside0.mk ((by rw [hg]; exact (below_size (by repeat (first | (with_reducible first | exact HB.out | apply below_alloc | apply pw_below_drewN | apply below_drew1 | refine below_set ?_ GE225.out) | exact HB.out))) : w.heap.size ≤ gb227)); have n5_ := Aside0.mk ((by rw [hg]; exact Nat.ne_of_lt (blk_lt (g := gb225) (o := .cells #[.int .i64 0, .bool false, .int .u64 0, .int .i64 0] 194 (0, 0)) (by (with_reducible repeat (first | refine blk_drewN ?_ _ | refine blk_drew ?_ | refine blk_alloc ?_ _)); exact BK225.out)) : gb225 ≠ gb227)); have n6_ := Aside0.mk ((by rw [hg]; exact Nat.ne_of_gt (blk_lt (g := gb225) (o := .cells #[.int .i64 0, .bool false, .int .u64 0, .int .i64 0] 194 (0, 0)) (by (with_reducible repeat (first | refine blk_drewN ?_ _ | refine blk_drew ?_ | refine blk_alloc ?_ _)); exact BK225.out)) : gb227 ≠ gb225)); clear BK225; clear HB; have BK225 := n0_; have HB := n1_; have BK227 := n2_; have GW227 := n3_; have GE227 := n4_; have NB225_227 := n5_; have NB227_225 := n6_; clear n0_ n1_ n2_ n3_ n4_ n5_ n6_; clear hb hbox hg; have hnb7 := NB227_225.out; have hnc7 := NB225_227.out; have hcz8_0 : w6.cell? ⟨gb227, 0, none⟩ = some (.int .i64 0) := (blk_cell BK227.out 0).trans rfl; have hcz8_1 : w6.cell? ⟨gb227, 1, none⟩ = some (.bool false) := (blk_cell BK227.out 1).trans rfl; have hcz8_2 : w6.cell? ⟨gb227, 2, none⟩ = some (.int .u64 0) := (blk_cell BK227.out 2).trans rfl; have hcz8_3 : w6.cell? ⟨gb227, 3, none⟩ = some (.int .i64 0) := (blk_cell BK227.out 3).trans rfl; have hfz8_0 := blk_frozen BK227.out 0; have hfz8_1 := blk_frozen BK227.out 1; have hfz8_2 := blk_frozen BK227.out 2; have hfz8_3 := blk_frozen BK227.out 3))
    (try simp only [Act.put, List.setIfInBounds_toArray, List.set_cons_zero, List.set_cons_succ])
    go_cut [24] (fun v24 wc => ∃ (kq : Nat) (x24_3 : Bool), v24 = .bool x24_3 ∧ Aside0 (spec_PartsOfNumber.j0 kq (wrap64 (Int.tmod (IntKind.u64.wrap (Int.tdiv a0 4503599627370496)) 2048)) (Int.tmod a0 4503599627370496) x24_3 0 ((IntKind.u64.wrap (Int.tdiv a0 t226)) == 1) 0 0 = some (r1, r2, r3, r4)) ∧ Aside0 (kq ≤ k) ∧ Aside0 (wc.heap[gb225]? = some (.cells #[.int .i64 0, .bool false, .int .u64 0, .int .i64 0] 194 (0, 0))) ∧ Aside0 (wc.heap[gb227]? = some (.cells #[.int .i64 0, .bool ((IntKind.u64.wrap (Int.tdiv a0 t226)) == 1), .int .u64 0, .int .i64 0] 194 (0, 0))) ∧ Aside0 (Below w.heap.size w wc))
    case first =>
      have H := HC4.out
      clear HC4
      by_cases c9 : (wrap64 (Int.tmod (IntKind.u64.wrap (Int.tdiv a0 4503599627370496)) 2048)) = 2047
      · rw [if_pos c9] at H
        have c9b0 : ((wrap64 (Int.tmod (IntKind.u64.wrap (Int.tdiv a0 4503599627370496)) 2048)) == 2047) = true := beq_iff_eq.mpr c9
        have c9b1 : ((wrap64 (Int.tmod (IntKind.u64.wrap (Int.tdiv a0 4503599627370496)) 2048)) != 2047) = false := bne_eq_false_iff_eq.mpr c9
        clear c9
        (first | rw [c9b0] | (simp only [i64_w, i32_w]; rw [c9b0]) | skip)
        have H' := Aside0.mk H
        clear H
        go_wp2
        go_meet
        case rel => exact ⟨_, (((Int.tmod a0 4503599627370496) != 0)), (by first | rfl | (simp; done) | (simp [*]; done)), H', ⟨by first | omega | exact Nat.le_refl _⟩, ⟨by (with_reducible repeat (first | refine blk_drewN ?_ _ | refine blk_drew ?_ | refine blk_alloc ?_ _)); refine blk_far ?_ NB225_227.out _; (with_reducible repeat (first | refine blk_drewN ?_ _ | refine blk_drew ?_ | refine blk_alloc ?_ _)); refine blk_far ?_ NB225_227.out _; (with_reducible repeat (first | refine blk_drewN ?_ _ | refine blk_drew ?_ | refine blk_alloc ?_ _)); refine blk_far ?_ NB225_227.out _; (with_reducible repeat (first | refine blk_drewN ?_ _ | refine blk_drew ?_ | refine blk_alloc ?_ _)); refine blk_far ?_ NB225_227.out _; (with_reducible repeat (first | refine blk_drewN ?_ _ | refine blk_drew ?_ | refine blk_alloc ?_ _)); exact BK225.out⟩, ⟨by (with_reducible repeat (first | refine blk_drewN ?_ _ | refine blk_drew ?_ | refine blk_alloc ?_ _)); refine blk_put (cs := #[.int .i64 0, .bool ((IntKind.u64.wrap (Int.tdiv a0 t226)) == 1), .int .u64 0, .int .i64 0]) ?_ 3 _ rfl; (with_reducible repeat (first | refine blk_drewN ?_ _ | refine blk_drew ?_ | refine blk_alloc ?_ _)); refine blk_put (cs := #[.int .i64 0, .bool ((IntKind.u64.wrap (Int.tdiv a0 t226)) == 1), .int .u64 0, .int .i64 0]) ?_ 2 _ rfl; (with_reducible repeat (first | refine blk_drewN ?_ _ | refine blk_drew ?_ | refine blk_alloc ?_ _)); refine blk_put (cs := #[.int .i64 0, .bool false, .int .u64 0, .int .i64 0]) ?_ 1 _ rfl; (with_reducible repeat (first | refine blk_drewN ?_ _ | refine blk_drew ?_ | refine blk_alloc ?_ _)); refine blk_put (cs := #[.int .i64 0, .bool false, .int .u64 0, .int .i64 0]) ?_ 0 _ rfl; (with_reducible repeat (first | refine blk_drewN ?_ _ | refine blk_drew ?_ | refine blk_alloc ?_ _)); exact BK227.out⟩, ⟨by repeat (first | (with_reducible first | exact HB.out | apply below_alloc | apply pw_below_drewN | apply below_drew1 | refine below_set ?_ GE225.out | refine below_set ?_ GE227.out) | exact HB.out)⟩⟩
      · rw [if_neg c9] at H
        have c9b0 : ((wrap64 (Int.tmod (IntKind.u64.wrap (Int.tdiv a0 4503599627370496)) 2048)) == 2047) = false := beq_eq_false_iff_ne.mpr c9
        have c9b1 : ((wrap64 (Int.tmod (IntKind.u64.wrap (Int.tdiv a0 4503599627370496)) 2048)) != 2047) = true := bne_iff_ne.mpr c9
        (first | rw [c9b0] | (simp only [i64_w, i32_w]; rw [c9b0]) | skip)
        have H' := Aside0.mk H
        clear H
        go_wp2
        go_meet
        case rel => exact ⟨_, (false), (by first | rfl | (simp; done) | (simp [*]; done)), H', ⟨by first | omega | exact Nat.le_refl _⟩, ⟨by (with_reducible repeat (first | refine blk_drewN ?_ _ | refine blk_drew ?_ | refine blk_alloc ?_ _)); refine blk_far ?_ NB225_227.out _; (with_reducible repeat (first | refine blk_drewN ?_ _ | refine blk_drew ?_ | refine blk_alloc ?_ _)); refine blk_far ?_ NB225_227.out _; (with_reducible repeat (first | refine blk_drewN ?_ _ | refine blk_drew ?_ | refine blk_alloc ?_ _)); refine blk_far ?_ NB225_227.out _; (with_reducible repeat (first | refine blk_drewN ?_ _ | refine blk_drew ?_ | refine blk_alloc ?_ _)); refine blk_far ?_ NB225_227.out _; (with_reducible repeat (first | refine blk_drewN ?_ _ | refine blk_drew ?_ | refine blk_alloc ?_ _)); exact BK225.out⟩, ⟨by (with_reducible repeat (first | refine blk_drewN ?_ _ | refine blk_drew ?_ | refine blk_alloc ?_ _)); refine blk_put (cs := #[.int .i64 0, .bool ((IntKind.u64.wrap (Int.tdiv a0 t226)) == 1), .int .u64 0, .int .i64 0]) ?_ 3 _ rfl; (with_reducible repeat (first | refine blk_drewN ?_ _ | refine blk_drew ?_ | refine blk_alloc ?_ _)); refine blk_put (cs := #[.int .i64 0, .bool ((IntKind.u64.wrap (Int.tdiv a0 t226)) == 1), .int .u64 0, .int .i64 0]) ?_ 2 _ rfl; (with_reducible repeat (first | refine blk_drewN ?_ _ | refine blk_drew ?_ | refine blk_alloc ?_ _)); refine blk_put (cs := #[.int .i64 0, .bool false, .int .u64 0, .int .i64 0]) ?_ 1 _ rfl; (with_reducible repeat (first | refine blk_drewN ?_ _ | refine blk_drew ?_ | refine blk_alloc ?_ _)); refine blk_put (cs := #[.int .i64 0, .bool false, .int .u64 0, .int .i64 0]) ?_ 0 _ rfl; (with_reducible repeat (first | refine blk_drewN ?_ _ | refine blk_drew ?_ | refine blk_alloc ?_ _)); exact BK227.out⟩, ⟨by repeat (first | (with_reducible first | exact HB.out | apply below_alloc | apply pw_below_drewN | apply below_drew1 | refine below_set ?_ GE225.out | refine below_set ?_ GE227.out) | exact HB.out)⟩⟩
    case rest =>
      clear HC4
      try clear c1
      try clear p2
      try clear c3
      try clear c3b0
      try clear c3b1
      try clear p6
      try clear c7
      try clear c9
      try clear c9b0
      try clear c9b1
      try clear hcz8_0
      try clear hcz8_1
      try clear hcz8_2
      try clear hcz8_3
      try clear hfz8_0
      try clear hfz8_1
      try clear hfz8_2
      try clear hfz8_3
      obtain ⟨kq, x24_3, rfl, HA, HJ3, BK225, BK227, HB⟩ := hcut
      cases kq with
      | zero => exact absurd HA.out (by simp [spec_PartsOfNumber.j0])
      | succ kj3 =>
        have H := HA.out
        clear HA
        simp only [spec_PartsOfNumber.j0] at H
        by_cases c10 : x24_3 = true
        · subst c10
          have H1 : (some (1, false, 0, 0)) = some (r1, r2, r3, r4) := by rw [if_pos rfl] at H; exact H
          clear H
          have H := H1
          clear H1
          simp only [Option.some.injEq, Prod.mk.injEq] at H
          obtain ⟨rfl, rfl, rfl, rfl⟩ := H
          have hnb11 := NB225_227.out
          have hnc11 := NB227_225.out
          have hcz12_0 : wc.cell? ⟨gb225, 0, none⟩ = some (.int .i64 0) := (blk_cell BK225.out 0).trans rfl
          have hcz12_1 : wc.cell? ⟨gb225, 1, none⟩ = some (.bool false) := (blk_cell BK225.out 1).trans rfl
          have hcz12_2 : wc.cell? ⟨gb225, 2, none⟩ = some (.int .u64 0) := (blk_cell BK225.out 2).trans rfl
          have hcz12_3 : wc.cell? ⟨gb225, 3, none⟩ = some (.int .i64 0) := (blk_cell BK225.out 3).trans rfl
          have hfz12_0 := blk_frozen BK225.out 0
          have hfz12_1 := blk_frozen BK225.out 1
          have hfz12_2 := blk_frozen BK225.out 2
          have hfz12_3 := blk_frozen BK225.out 3
          go_wp2
          refine bodyPost_ret (results_cell_row rfl _ _ gb225 194 #[.int .i64 1, .bool false, .int .u64 0, .int .i64 0] (0, 0) _ rfl (by (with_reducible repeat (first | refine blk_drewN ?_ _ | refine blk_drew ?_ | refine blk_alloc ?_ _)); refine blk_put (cs := #[.int .i64 1, .bool false, .int .u64 0, .int .i64 0]) ?_ 3 _ rfl; (with_reducible repeat (first | refine blk_drewN ?_ _ | refine blk_drew ?_ | refine blk_alloc ?_ _)); refine blk_put (cs := #[.int .i64 1, .bool false, .int .u64 0, .int .i64 0]) ?_ 2 _ rfl; (with_reducible repeat (first | refine blk_drewN ?_ _ | refine blk_drew ?_ | refine blk_alloc ?_ _)); refine blk_put (cs := #[.int .i64 1, .bool false, .int .u64 0, .int .i64 0]) ?_ 1 _ rfl; (with_reducible repeat (first | refine blk_drewN ?_ _ | refine blk_drew ?_ | refine blk_alloc ?_ _)); refine blk_put (cs := #[.int .i64 0, .bool false, .int .u64 0, .int .i64 0]) ?_ 0 _ rfl; (with_reducible repeat (first | refine blk_drewN ?_ _ | refine blk_drew ?_ | refine blk_alloc ?_ _)); exact BK225.out) Try.underlying194 rfl (by kernel_rfl)) rfl ?_
          exact ⟨by first | rfl | (simp; done) | (simp [errW_none, errW_some] <;> rfl) | (simp [*, errW_none, errW_some] <;> rfl) | (simp [bne, List.isEmpty_iff]; done) | (rw [Bool.eq_iff_iff]; simp), by repeat (first | (with_reducible first | exact HB.out | apply below_alloc | apply pw_below_drewN | apply below_drew1 | refine below_set ?_ GE225.out | refine below_set ?_ GE227.out) | exact HB.out)⟩
        · replace c10 := Bool.eq_false_iff.mpr c10
          subst c10
          have H1 : (if (wrap64 (Int.tmod (IntKind.u64.wrap (Int.tdiv a0 4503599627370496)) 2048)) = 2047 then (some (2, ((IntKind.u64.wrap (Int.tdiv a0 t226)) == 1), 0, 0)) else (if (wrap64 (Int.tmod (IntKind.u64.wrap (Int.tdiv a0 4503599627370496)) 2048)) = 0 then (spec_PartsOfNumber.j1 kj3 (wrap64 (Int.tmod (IntKind.u64.wrap (Int.tdiv a0 4503599627370496)) 2048)) (Int.tmod a0 4503599627370496) ((Int.tmod a0 4503599627370496) == 0) 0 ((IntKind.u64.wrap (Int.tdiv a0 t226)) == 1) 0 0) else (spec_PartsOfNumber.j1 kj3 (wrap64 (Int.tmod (IntKind.u64.wrap (Int.tdiv a0 4503599627370496)) 2048)) (Int.tmod a0 4503599627370496) false 0 ((IntKind.u64.wrap (Int.tdiv a0 t226)) == 1) 0 0))) = some (r1, r2, r3, r4) := by rw [if_neg (show ¬ (false = true) by decide)] at H; exact H
          clear H
          have H := H1
          clear H1
          by_cases c13 : (wrap64 (Int.tmod (IntKind.u64.wrap (Int.tdiv a0 4503599627370496)) 2048)) = 2047
          · rw [if_pos c13] at H
            have c13b0 : ((wrap64 (Int.tmod (IntKind.u64.wrap (Int.tdiv a0 4503599627370496)) 2048)) == 2047) = true := beq_iff_eq.mpr c13
            have c13b1 : ((wrap64 (Int.tmod (IntKind.u64.wrap (Int.tdiv a0 4503599627370496)) 2048)) != 2047) = false := bne_eq_false_iff_eq.mpr c13
            clear c13
            simp only [Option.some.injEq, Prod.mk.injEq] at H
            obtain ⟨rfl, rfl, rfl, rfl⟩ := H
            have hnb14 := NB227_225.out
            have hnc14 := NB225_227.out
            have hcz15_0 : wc.cell? ⟨gb227, 0, none⟩ = some (.int .i64 0) := (blk_cell BK227.out 0).trans rfl
            have hcz15_1 : wc.cell? ⟨gb227, 1, none⟩ = some (.bool ((IntKind.u64.wrap (Int.tdiv a0 t226)) == 1)) := (blk_cell BK227.out 1).trans rfl
            have hcz15_2 : wc.cell? ⟨gb227, 2, none⟩ = some (.int .u64 0) := (blk_cell BK227.out 2).trans rfl
            have hcz15_3 : wc.cell? ⟨gb227, 3, none⟩ = some (.int .i64 0) := (blk_cell BK227.out 3).trans rfl
            have hfz15_0 := blk_frozen BK227.out 0
            have hfz15_1 := blk_frozen BK227.out 1
            have hfz15_2 := blk_frozen BK227.out 2
            have hfz15_3 := blk_frozen BK227.out 3
            have hcz16_0 : wc.cell? ⟨gb225, 0, none⟩ = some (.int .i64 0) := (blk_cell BK225.out 0).trans rfl
            have hcz16_1 : wc.cell? ⟨gb225, 1, none⟩ = some (.bool false) := (blk_cell BK225.out 1).trans rfl
            have hcz16_2 : wc.cell? ⟨gb225, 2, none⟩ = some (.int .u64 0) := (blk_cell BK225.out 2).trans rfl
            have hcz16_3 : wc.cell? ⟨gb225, 3, none⟩ = some (.int .i64 0) := (blk_cell BK225.out 3).trans rfl
            have hfz16_0 := blk_frozen BK225.out 0
            have hfz16_1 := blk_frozen BK225.out 1
            have hfz16_2 := blk_frozen BK225.out 2
            have hfz16_3 := blk_frozen BK225.out 3
            go_wp2
            refine bodyPost_ret (results_cell_row rfl _ _ gb225 194 #[.int .i64 2, .bool ((IntKind.u64.wrap (Int.tdiv a0 t226)) == 1), .int .u64 0, .int .i64 0] (0, 0) _ rfl (by (with_reducible repeat (first | refine blk_drewN ?_ _ | refine blk_drew ?_ | refine blk_alloc ?_ _)); refine blk_put (cs := #[.int .i64 2, .bool ((IntKind.u64.wrap (Int.tdiv a0 t226)) == 1), .int .u64 0, .int .i64 0]) ?_ 3 _ rfl; (with_reducible repeat (first | refine blk_drewN ?_ _ | refine blk_drew ?_ | refine blk_alloc ?_ _)); refine blk_put (cs := #[.int .i64 2, .bool ((IntKind.u64.wrap (Int.tdiv a0 t226)) == 1), .int .u64 0, .int .i64 0]) ?_ 2 _ rfl; (with_reducible repeat (first | refine blk_drewN ?_ _ | refine blk_drew ?_ | refine blk_alloc ?_ _)); refine blk_put (cs := #[.int .i64 2, .bool false, .int .u64 0, .int .i64 0]) ?_ 1 _ rfl; (with_reducible repeat (first | refine blk_drewN ?_ _ | refine blk_drew ?_ | refine blk_alloc ?_ _)); refine blk_put (cs := #[.int .i64 0, .bool false, .int .u64 0, .int .i64 0]) ?_ 0 _ rfl; (with_reducible repeat (first | refine blk_drewN ?_ _ | refine blk_drew ?_ | refine blk_alloc ?_ _)); refine blk_far ?_ NB225_227.out _; (with_reducible repeat (first | refine blk_drewN ?_ _ | refine blk_drew ?_ | refine blk_alloc ?_ _)); exact BK225.out) Try.underlying194 rfl (by kernel_rfl)) rfl ?_
            exact ⟨by first | rfl | (simp; done) | (simp [errW_none, errW_some] <;> rfl) | (simp [*, errW_none, errW_some] <;> rfl) | (simp [bne, List.isEmpty_iff]; done) | (rw [Bool.eq_iff_iff]; simp), by repeat (first | (with_reducible first | exact HB.out | apply below_alloc | apply pw_below_drewN | apply below_drew1 | refine below_set ?_ GE225.out | refine below_set ?_ GE227.out) | exact HB.out)⟩
          · rw [if_neg c13] at H
            have c13b0 : ((wrap64 (Int.tmod (IntKind.u64.wrap (Int.tdiv a0 4503599627370496)) 2048)) == 2047) = false := beq_eq_false_iff_ne.mpr c13
            have c13b1 : ((wrap64 (Int.tmod (IntKind.u64.wrap (Int.tdiv a0 4503599627370496)) 2048)) != 2047) = true := bne_iff_ne.mpr c13
            have HC17 := Aside0.mk H
            clear H
            go_upto_region 11 with (fail)
            go_cut [36] (fun v36 wc => ∃ (kq : Nat) (x36_16 : Bool), v36 = .bool x36_16 ∧ Aside0 (spec_PartsOfNumber.j1 kq (wrap64 (Int.tmod (IntKind.u64.wrap (Int.tdiv a0 4503599627370496)) 2048)) (Int.tmod a0 4503599627370496) x36_16 0 ((IntKind.u64.wrap (Int.tdiv a0 t226)) == 1) 0 0 = some (r1, r2, r3, r4)) ∧ Aside0 (kq ≤ kj3) ∧ Aside0 (wc.heap[gb225]? = some (.cells #[.int .i64 0, .bool false, .int .u64 0, .int .i64 0] 194 (0, 0))) ∧ Aside0 (wc.heap[gb227]? = some (.cells #[.int .i64 0, .bool ((IntKind.u64.wrap (Int.tdiv a0 t226)) == 1), .int .u64 0, .int .i64 0] 194 (0, 0))) ∧ Aside0 (Below w.heap.size w wc))
            case first =>
              have H := HC17.out
              clear HC17
              by_cases c18 : (wrap64 (Int.tmod (IntKind.u64.wrap (Int.tdiv a0 4503599627370496)) 2048)) = 0
              · rw [if_pos c18] at H
                have c18b0 : ((wrap64 (Int.tmod (IntKind.u64.wrap (Int.tdiv a0 4503599627370496)) 2048)) == 0) = true := beq_iff_eq.mpr c18
                have c18b1 : ((wrap64 (Int.tmod (IntKind.u64.wrap (Int.tdiv a0 4503599627370496)) 2048)) != 0) = false := bne_eq_false_iff_eq.mpr c18
                clear c18
                (first | rw [c18b0] | (simp only [i64_w, i32_w]; rw [c18b0]) | skip)
                have H' := Aside0.mk H
                clear H
                go_wp2
                go_meet
                case rel => exact ⟨_, (((Int.tmod a0 4503599627370496) == 0)), (by first | rfl | (simp; done) | (simp [*]; done)), H', ⟨by have := HJ3.out; first | omega | exact Nat.le_refl _⟩, ⟨by (with_reducible repeat (first | refine blk_drewN ?_ _ | refine blk_drew ?_ | refine blk_alloc ?_ _)); exact BK225.out⟩, ⟨by (with_reducible repeat (first | refine blk_drewN ?_ _ | refine blk_drew ?_ | refine blk_alloc ?_ _)); exact BK227.out⟩, ⟨by repeat (first | (with_reducible first | exact HB.out | apply below_alloc | apply pw_below_drewN | apply below_drew1 | refine below_set ?_ GE225.out | refine below_set ?_ GE227.out) | exact HB.out)⟩⟩
              · rw [if_neg c18] at H
                have c18b0 : ((wrap64 (Int.tmod (IntKind.u64.wrap (Int.tdiv a0 4503599627370496)) 2048)) == 0) = false := beq_eq_false_iff_ne.mpr c18
                have c18b1 : ((wrap64 (Int.tmod (IntKind.u64.wrap (Int.tdiv a0 4503599627370496)) 2048)) != 0) = true := bne_iff_ne.mpr c18
                (first | rw [c18b0] | (simp only [i64_w, i32_w]; rw [c18b0]) | skip)
                have H' := Aside0.mk H
                clear H
                go_wp2
                go_meet
                case rel => exact ⟨_, (false), (by first | rfl | (simp; done) | (simp [*]; done)), H', ⟨by have := HJ3.out; first | omega | exact Nat.le_refl _⟩, ⟨by (with_reducible repeat (first | refine blk_drewN ?_ _ | refine blk_drew ?_ | refine blk_alloc ?_ _)); exact BK225.out⟩, ⟨by (with_reducible repeat (first | refine blk_drewN ?_ _ | refine blk_drew ?_ | refine blk_alloc ?_ _)); exact BK227.out⟩, ⟨by repeat (first | (with_reducible first | exact HB.out | apply below_alloc | apply pw_below_drewN | apply below_drew1 | refine below_set ?_ GE225.out | refine below_set ?_ GE227.out) | exact HB.out)⟩⟩
            case rest =>
              clear HC17
              try clear c1
              try clear p2
              try clear c3
              try clear c3b0
              try clear c3b1
              try clear p6
              try clear c7
              try clear c9
              try clear c9b0
              try clear c9b1
              try clear c10
              try clear c11
              try clear c13
              try clear c13b0
              try clear c13b1
              try clear c14
              try clear c16
              try clear c17
              try clear c18
              try clear c18b0
              try clear c18b1
              try clear hcz12_0
              try clear hcz12_1
              try clear hcz12_2
              try clear hcz12_3
              try clear hcz15_0
              try clear hcz15_1
              try clear hcz15_2
              try clear hcz15_3
              try clear hcz16_0
              try clear hcz16_1
              try clear hcz16_2
              try clear hcz16_3
              try clear hcz8_0
              try clear hcz8_1
              try clear hcz8_2
              try clear hcz8_3
              try clear hfz12_0
              try clear hfz12_1
              try clear hfz12_2
              try clear hfz12_3
              try clear hfz15_0
              try clear hfz15_1
              try clear hfz15_2
              try clear hfz15_3
              try clear hfz16_0
              try clear hfz16_1
              try clear hfz16_2
              try clear hfz16_3
              try clear hfz8_0
              try clear hfz8_1
              try clear hfz8_2
              try clear hfz8_3
              try clear p2
              try clear p6
              obtain ⟨kq, x36_16, rfl, HA, HJ16, BK225, BK227, HB⟩ := hcut
              cases kq with
              | zero => exact absurd HA.out (by simp [spec_PartsOfNumber.j1])
              | succ kj16 =>
                have H := HA.out
                clear HA
                simp only [spec_PartsOfNumber.j1] at H
                by_cases c19 : x36_16 = true
                · subst c19
                  have H1 : (some (3, ((IntKind.u64.wrap (Int.tdiv a0 t226)) == 1), 0, 0)) = some (r1, r2, r3, r4) := by rw [if_pos rfl] at H; exact H
                  clear H
                  have H := H1
                  clear H1
                  simp only [Option.some.injEq, Prod.mk.injEq] at H
                  obtain ⟨rfl, rfl, rfl, rfl⟩ := H
                  have hnb20 := NB227_225.out
                  have hnc20 := NB225_227.out
                  have hcz21_0 : wc.cell? ⟨gb227, 0, none⟩ = some (.int .i64 0) := (blk_cell BK227.out 0).trans rfl
                  have hcz21_1 : wc.cell? ⟨gb227, 1, none⟩ = some (.bool ((IntKind.u64.wrap (Int.tdiv a0 t226)) == 1)) := (blk_cell BK227.out 1).trans rfl
                  have hcz21_2 : wc.cell? ⟨gb227, 2, none⟩ = some (.int .u64 0) := (blk_cell BK227.out 2).trans rfl
                  have hcz21_3 : wc.cell? ⟨gb227, 3, none⟩ = some (.int .i64 0) := (blk_cell BK227.out 3).trans rfl
                  have hfz21_0 := blk_frozen BK227.out 0
                  have hfz21_1 := blk_frozen BK227.out 1
                  have hfz21_2 := blk_frozen BK227.out 2
                  have hfz21_3 := blk_frozen BK227.out 3
                  have hcz22_0 : wc.cell? ⟨gb225, 0, none⟩ = some (.int .i64 0) := (blk_cell BK225.out 0).trans rfl
                  have hcz22_1 : wc.cell? ⟨gb225, 1, none⟩ = some (.bool false) := (blk_cell BK225.out 1).trans rfl
                  have hcz22_2 : wc.cell? ⟨gb225, 2, none⟩ = some (.int .u64 0) := (blk_cell BK225.out 2).trans rfl
                  have hcz22_3 : wc.cell? ⟨gb225, 3, none⟩ = some (.int .i64 0) := (blk_cell BK225.out 3).trans rfl
                  have hfz22_0 := blk_frozen BK225.out 0
                  have hfz22_1 := blk_frozen BK225.out 1
                  have hfz22_2 := blk_frozen BK225.out 2
                  have hfz22_3 := blk_frozen BK225.out 3
                  go_wp2
                  refine bodyPost_ret (results_cell_row rfl _ _ gb225 194 #[.int .i64 3, .bool ((IntKind.u64.wrap (Int.tdiv a0 t226)) == 1), .int .u64 0, .int .i64 0] (0, 0) _ rfl (by (with_reducible repeat (first | refine blk_drewN ?_ _ | refine blk_drew ?_ | refine blk_alloc ?_ _)); refine blk_put (cs := #[.int .i64 3, .bool ((IntKind.u64.wrap (Int.tdiv a0 t226)) == 1), .int .u64 0, .int .i64 0]) ?_ 3 _ rfl; (with_reducible repeat (first | refine blk_drewN ?_ _ | refine blk_drew ?_ | refine blk_alloc ?_ _)); refine blk_put (cs := #[.int .i64 3, .bool ((IntKind.u64.wrap (Int.tdiv a0 t226)) == 1), .int .u64 0, .int .i64 0]) ?_ 2 _ rfl; (with_reducible repeat (first | refine blk_drewN ?_ _ | refine blk_drew ?_ | refine blk_alloc ?_ _)); refine blk_put (cs := #[.int .i64 3, .bool false, .int .u64 0, .int .i64 0]) ?_ 1 _ rfl; (with_reducible repeat (first | refine blk_drewN ?_ _ | refine blk_drew ?_ | refine blk_alloc ?_ _)); refine blk_put (cs := #[.int .i64 0, .bool false, .int .u64 0, .int .i64 0]) ?_ 0 _ rfl; (with_reducible repeat (first | refine blk_drewN ?_ _ | refine blk_drew ?_ | refine blk_alloc ?_ _)); refine blk_far ?_ NB225_227.out _; (with_reducible repeat (first | refine blk_drewN ?_ _ | refine blk_drew ?_ | refine blk_alloc ?_ _)); exact BK225.out) Try.underlying194 rfl (by kernel_rfl)) rfl ?_
                  exact ⟨by first | rfl | (simp; done) | (simp [errW_none, errW_some] <;> rfl) | (simp [*, errW_none, errW_some] <;> rfl) | (simp [bne, List.isEmpty_iff]; done) | (rw [Bool.eq_iff_iff]; simp), by repeat (first | (with_reducible first | exact HB.out | apply below_alloc | apply pw_below_drewN | apply below_drew1 | refine below_set ?_ GE225.out | refine below_set ?_ GE227.out) | exact HB.out)⟩
                · replace c19 := Bool.eq_false_iff.mpr c19
                  subst c19
                  have H1 : (if (wrap64 (Int.tmod (IntKind.u64.wrap (Int.tdiv a0 4503599627370496)) 2048)) = 0 then (some (4, ((IntKind.u64.wrap (Int.tdiv a0 t226)) == 1), (Int.tmod a0 4503599627370496), (-1074))) else (some (4, ((IntKind.u64.wrap (Int.tdiv a0 t226)) == 1), IntKind.u64.wrap ((Int.tmod a0 4503599627370496) + 4503599627370496), wrap64 ((wrap64 (Int.tmod (IntKind.u64.wrap (Int.tdiv a0 4503599627370496)) 2048)) - 1075)))) = some (r1, r2, r3, r4) := by rw [if_neg (show ¬ (false = true) by decide)] at H; exact H
                  clear H
                  have H := H1
                  clear H1
                  by_cases c23 : (wrap64 (Int.tmod (IntKind.u64.wrap (Int.tdiv a0 4503599627370496)) 2048)) = 0
                  · rw [if_pos c23] at H
                    have c23b0 : ((wrap64 (Int.tmod (IntKind.u64.wrap (Int.tdiv a0 4503599627370496)) 2048)) == 0) = true := beq_iff_eq.mpr c23
                    have c23b1 : ((wrap64 (Int.tmod (IntKind.u64.wrap (Int.tdiv a0 4503599627370496)) 2048)) != 0) = false := bne_eq_false_iff_eq.mpr c23
                    clear c23
                    simp only [Option.some.injEq, Prod.mk.injEq] at H
                    obtain ⟨rfl, rfl, rfl, rfl⟩ := H
                    have hnb24 := NB227_225.out
                    have hnc24 := NB225_227.out
                    have hcz25_0 : wc.cell? ⟨gb227, 0, none⟩ = some (.int .i64 0) := (blk_cell BK227.out 0).trans rfl
                    have hcz25_1 : wc.cell? ⟨gb227, 1, none⟩ = some (.bool ((IntKind.u64.wrap (Int.tdiv a0 t226)) == 1)) := (blk_cell BK227.out 1).trans rfl
                    have hcz25_2 : wc.cell? ⟨gb227, 2, none⟩ = some (.int .u64 0) := (blk_cell BK227.out 2).trans rfl
                    have hcz25_3 : wc.cell? ⟨gb227, 3, none⟩ = some (.int .i64 0) := (blk_cell BK227.out 3).trans rfl
                    have hfz25_0 := blk_frozen BK227.out 0
                    have hfz25_1 := blk_frozen BK227.out 1
                    have hfz25_2 := blk_frozen BK227.out 2
                    have hfz25_3 := blk_frozen BK227.out 3
                    have hcz26_0 : wc.cell? ⟨gb225, 0, none⟩ = some (.int .i64 0) := (blk_cell BK225.out 0).trans rfl
                    have hcz26_1 : wc.cell? ⟨gb225, 1, none⟩ = some (.bool false) := (blk_cell BK225.out 1).trans rfl
                    have hcz26_2 : wc.cell? ⟨gb225, 2, none⟩ = some (.int .u64 0) := (blk_cell BK225.out 2).trans rfl
                    have hcz26_3 : wc.cell? ⟨gb225, 3, none⟩ = some (.int .i64 0) := (blk_cell BK225.out 3).trans rfl
                    have hfz26_0 := blk_frozen BK225.out 0
                    have hfz26_1 := blk_frozen BK225.out 1
                    have hfz26_2 := blk_frozen BK225.out 2
                    have hfz26_3 := blk_frozen BK225.out 3
                    go_wp2
                    refine bodyPost_ret (results_cell_row rfl _ _ gb225 194 #[.int .i64 4, .bool ((IntKind.u64.wrap (Int.tdiv a0 t226)) == 1), .int .u64 (Int.tmod a0 4503599627370496), .int .i64 (-1074)] (0, 0) _ rfl (by (with_reducible repeat (first | refine blk_drewN ?_ _ | refine blk_drew ?_ | refine blk_alloc ?_ _)); refine blk_put (cs := #[.int .i64 4, .bool ((IntKind.u64.wrap (Int.tdiv a0 t226)) == 1), .int .u64 (Int.tmod a0 4503599627370496), .int .i64 0]) ?_ 3 _ rfl; (with_reducible repeat (first | refine blk_drewN ?_ _ | refine blk_drew ?_ | refine blk_alloc ?_ _)); refine blk_put (cs := #[.int .i64 4, .bool ((IntKind.u64.wrap (Int.tdiv a0 t226)) == 1), .int .u64 0, .int .i64 0]) ?_ 2 _ rfl; (with_reducible repeat (first | refine blk_drewN ?_ _ | refine blk_drew ?_ | refine blk_alloc ?_ _)); refine blk_put (cs := #[.int .i64 4, .bool false, .int .u64 0, .int .i64 0]) ?_ 1 _ rfl; (with_reducible repeat (first | refine blk_drewN ?_ _ | refine blk_drew ?_ | refine blk_alloc ?_ _)); refine blk_put (cs := #[.int .i64 0, .bool false, .int .u64 0, .int .i64 0]) ?_ 0 _ rfl; (with_reducible repeat (first | refine blk_drewN ?_ _ | refine blk_drew ?_ | refine blk_alloc ?_ _)); refine blk_far ?_ NB225_227.out _; (with_reducible repeat (first | refine blk_drewN ?_ _ | refine blk_drew ?_ | refine blk_alloc ?_ _)); refine blk_far ?_ NB225_227.out _; (with_reducible repeat (first | refine blk_drewN ?_ _ | refine blk_drew ?_ | refine blk_alloc ?_ _)); refine blk_far ?_ NB225_227.out _; (with_reducible repeat (first | refine blk_drewN ?_ _ | refine blk_drew ?_ | refine blk_alloc ?_ _)); exact BK225.out) Try.underlying194 rfl (by kernel_rfl)) rfl ?_
                    exact ⟨by first | rfl | (simp; done) | (simp [errW_none, errW_some] <;> rfl) | (simp [*, errW_none, errW_some] <;> rfl) | (simp [bne, List.isEmpty_iff]; done) | (rw [Bool.eq_iff_iff]; simp), by repeat (first | (with_reducible first | exact HB.out | apply below_alloc | apply pw_below_drewN | apply below_drew1 | refine below_set ?_ GE225.out | refine below_set ?_ GE227.out) | exact HB.out)⟩
                  · rw [if_neg c23] at H
                    have c23b0 : ((wrap64 (Int.tmod (IntKind.u64.wrap (Int.tdiv a0 4503599627370496)) 2048)) == 0) = false := beq_eq_false_iff_ne.mpr c23
                    have c23b1 : ((wrap64 (Int.tmod (IntKind.u64.wrap (Int.tdiv a0 4503599627370496)) 2048)) != 0) = true := bne_iff_ne.mpr c23
                    simp only [Option.some.injEq, Prod.mk.injEq] at H
                    obtain ⟨rfl, rfl, rfl, rfl⟩ := H
                    have hnb27 := NB227_225.out
                    have hnc27 := NB225_227.out
                    have hcz28_0 : wc.cell? ⟨gb227, 0, none⟩ = some (.int .i64 0) := (blk_cell BK227.out 0).trans rfl
                    have hcz28_1 : wc.cell? ⟨gb227, 1, none⟩ = some (.bool ((IntKind.u64.wrap (Int.tdiv a0 t226)) == 1)) := (blk_cell BK227.out 1).trans rfl
                    have hcz28_2 : wc.cell? ⟨gb227, 2, none⟩ = some (.int .u64 0) := (blk_cell BK227.out 2).trans rfl
                    have hcz28_3 : wc.cell? ⟨gb227, 3, none⟩ = some (.int .i64 0) := (blk_cell BK227.out 3).trans rfl
                    have hfz28_0 := blk_frozen BK227.out 0
                    have hfz28_1 := blk_frozen BK227.out 1
                    have hfz28_2 := blk_frozen BK227.out 2
                    have hfz28_3 := blk_frozen BK227.out 3
                    have hcz29_0 : wc.cell? ⟨gb225, 0, none⟩ = some (.int .i64 0) := (blk_cell BK225.out 0).trans rfl
                    have hcz29_1 : wc.cell? ⟨gb225, 1, none⟩ = some (.bool false) := (blk_cell BK225.out 1).trans rfl
                    have hcz29_2 : wc.cell? ⟨gb225, 2, none⟩ = some (.int .u64 0) := (blk_cell BK225.out 2).trans rfl
                    have hcz29_3 : wc.cell? ⟨gb225, 3, none⟩ = some (.int .i64 0) := (blk_cell BK225.out 3).trans rfl
                    have hfz29_0 := blk_frozen BK225.out 0
                    have hfz29_1 := blk_frozen BK225.out 1
                    have hfz29_2 := blk_frozen BK225.out 2
                    have hfz29_3 := blk_frozen BK225.out 3
                    go_wp2
                    refine bodyPost_ret (results_cell_row rfl _ _ gb225 194 #[.int .i64 4, .bool ((IntKind.u64.wrap (Int.tdiv a0 t226)) == 1), .int .u64 (IntKind.u64.wrap ((Int.tmod a0 4503599627370496) + 4503599627370496)), .int .i64 (wrap64 ((wrap64 (Int.tmod (IntKind.u64.wrap (Int.tdiv a0 4503599627370496)) 2048)) - 1075))] (0, 0) _ rfl (by (with_reducible repeat (first | refine blk_drewN ?_ _ | refine blk_drew ?_ | refine blk_alloc ?_ _)); refine blk_put (cs := #[.int .i64 4, .bool ((IntKind.u64.wrap (Int.tdiv a0 t226)) == 1), .int .u64 (IntKind.u64.wrap ((Int.tmod a0 4503599627370496) + 4503599627370496)), .int .i64 0]) ?_ 3 _ rfl; (with_reducible repeat (first | refine blk_drewN ?_ _ | refine blk_drew ?_ | refine blk_alloc ?_ _)); refine blk_put (cs := #[.int .i64 4, .bool ((IntKind.u64.wrap (Int.tdiv a0 t226)) == 1), .int .u64 0, .int .i64 0]) ?_ 2 _ rfl; (with_reducible repeat (first | refine blk_drewN ?_ _ | refine blk_drew ?_ | refine blk_alloc ?_ _)); refine blk_put (cs := #[.int .i64 4, .bool false, .int .u64 0, .int .i64 0]) ?_ 1 _ rfl; (with_reducible repeat (first | refine blk_drewN ?_ _ | refine blk_drew ?_ | refine blk_alloc ?_ _)); refine blk_put (cs := #[.int .i64 0, .bool false, .int .u64 0, .int .i64 0]) ?_ 0 _ rfl; (with_reducible repeat (first | refine blk_drewN ?_ _ | refine blk_drew ?_ | refine blk_alloc ?_ _)); refine blk_far ?_ NB225_227.out _; (with_reducible repeat (first | refine blk_drewN ?_ _ | refine blk_drew ?_ | refine blk_alloc ?_ _)); refine blk_far ?_ NB225_227.out _; (with_reducible repeat (first | refine blk_drewN ?_ _ | refine blk_drew ?_ | refine blk_alloc ?_ _)); refine blk_far ?_ NB225_227.out _; (with_reducible repeat (first | refine blk_drewN ?_ _ | refine blk_drew ?_ | refine blk_alloc ?_ _)); exact BK225.out) Try.underlying194 rfl (by kernel_rfl)) rfl ?_
                    exact ⟨by first | rfl | (simp; done) | (simp [errW_none, errW_some] <;> rfl) | (simp [*, errW_none, errW_some] <;> rfl) | (simp [bne, List.isEmpty_iff]; done) | (rw [Bool.eq_iff_iff]; simp), by repeat (first | (with_reducible first | exact HB.out | apply below_alloc | apply pw_below_drewN | apply below_drew1 | refine below_set ?_ GE225.out | refine below_set ?_ GE227.out) | exact HB.out)⟩
def spec_l03Nan.f (k : Nat) (a0 : Int) : Option (Bool) := (spec_PartsOfNumber.f k a0).bind fun bt228 => (some (bt228.1 == 1))
theorem spec_l03Nan.mono : ∀ a0 k, LeO (spec_l03Nan.f k a0) (spec_l03Nan.f (k + 1) a0) := by
  intro a0 k
  unfold spec_l03Nan.f
  repeat' first
      | (with_reducible exact spec_PartsOfNumber.mono _ _)
      | (with_reducible exact LeO.refl _)
      | (with_reducible exact LeO.none _)
      | (with_reducible refine LeO.ite ?_ ?_)
      | (with_reducible refine LeO.bind ?_ (fun _ => ?_))
      | exact spec_PartsOfNumber.mono _ _
      | exact LeO.none _
      | refine LeO.ite ?_ ?_
      | refine LeO.bind ?_ (fun _ => ?_)
set_option maxHeartbeats 8000000 in
set_option maxRecDepth 100000 in
theorem spec_l03Nan.calls (k : Nat) (a0 : Int) (r : Bool) (w : World) (h : spec_l03Nan.f k a0 = some r) :
    Calls Try.prog 131 #[.int .u64 a0] w fun e w' => e = .returned (.bool r) ∧ Below w.heap.size w w' := by
  have HB := Aside0.mk (Below.refl w.heap.size w)
  have H : ((spec_PartsOfNumber.f k a0).bind fun bt228 => (some (bt228.1 == 1))) = some r := h
  clear h
  replace H := Option.bind_eq_some_iff.mp H
  obtain ⟨⟨t228, t229, t230, t231⟩, A20, H⟩ := H
  replace H : (some (t228 == 1)) = some r := H
  have A2 := Aside0.mk A20
  clear A20
  obtain rfl := Option.some.inj H
  go_enter Try.func131, Try.ntmps131
  go_wp2_with (first | ((with_reducible refine gate_callee (f := 161) rfl ?_); refine goesL_ (some 4) rfl rfl Try.func161 (by kernel_rfl) rfl #[.int .u64 a0] rfl (by (try simp only [List.map_toArray, List.map_cons, List.map_nil]); first | done | rfl | (simp only [List.length_drop, List.length_take]; rfl)) ?_; (with_reducible refine (spec_PartsOfNumber.calls k a0 t228 t229 t230 t231 _ A2.out).mono ?_); rintro e w3 ⟨rfl, hb⟩; refine ⟨_, rfl, ?_⟩; have n0_ := Aside0.mk (below_step (by repeat (first | (with_reducible first | exact HB.out | apply below_alloc | apply pw_below_drewN | apply below_drew1) | exact HB.out)) hb); clear HB; have HB := n0_; clear n0_; (try clear hb); (try clear hb2); (try clear hk); (try clear hi)))
  go_ret
  exact ⟨by first | rfl | (simp; done) | (simp [errW_none, errW_some] <;> rfl) | (simp [*, errW_none, errW_some] <;> rfl) | (simp [bne, List.isEmpty_iff]; done) | (rw [Bool.eq_iff_iff]; simp), by repeat (first | (with_reducible first | exact HB.out | apply below_alloc | apply pw_below_drewN | apply below_drew1) | exact HB.out)⟩
def spec_ConstOk.f (k : Nat) (a0_0 : Int) (a0_1 : Int) (a0_2 : ByteArray) : Option (Bool) := if a0_0 = 1 then (if a0_2.toList = ([] : List UInt8) then ((spec_l03Nan.f k a0_1).bind fun t233 => (if t233 = true then (some (a0_1 == 9221120237041090560)) else (some true))) else (some false)) else (if a0_0 = 2 then (if a0_1 = 0 then (some (decide ((a0_2.size : Int) ≤ 40))) else (some false)) else (if a0_0 = 3 then (if a0_1 = 0 then (some (a0_2.toList == ([] : List UInt8))) else (some false)) else (if a0_0 = 4 then (if a0_1 = 0 then (some (a0_2.toList == ([] : List UInt8))) else (some false)) else (if a0_0 = 5 then (if a0_1 = 0 then (some (a0_2.toList == ([] : List UInt8))) else (some false)) else (some false)))))
theorem spec_ConstOk.mono : ∀ a0 a1 a2 k, LeO (spec_ConstOk.f k a0 a1 a2) (spec_ConstOk.f (k + 1) a0 a1 a2) := by
  intro a0 a1 a2 k
  unfold spec_ConstOk.f
  repeat' first
      | (with_reducible exact spec_l03Nan.mono _ _)
      | (with_reducible exact LeO.refl _)
      | (with_reducible exact LeO.none _)
      | (with_reducible refine LeO.ite ?_ ?_)
      | (with_reducible refine LeO.bind ?_ (fun _ => ?_))
      | exact spec_l03Nan.mono _ _
      | exact LeO.none _
      | refine LeO.ite ?_ ?_
      | refine LeO.bind ?_ (fun _ => ?_)
set_option maxHeartbeats 8000000 in
set_option maxRecDepth 100000 in
theorem spec_ConstOk.calls (k : Nat) (a0_0 : Int) (a0_1 : Int) (a0_2 : ByteArray) (r : Bool) (w : World) (h : spec_ConstOk.f k a0_0 a0_1 a0_2 = some r) :
    Calls Try.prog 93 #[.agg #[.int .i64 a0_0, .int .u64 a0_1, .string a0_2]] w fun e w' => e = .returned (.bool r) ∧ Below w.heap.size w w' := by
  have hu100 := Try.underlying100
  have HB := Aside0.mk (Below.refl w.heap.size w)
  have H : (if a0_0 = 1 then (if a0_2.toList = ([] : List UInt8) then ((spec_l03Nan.f k a0_1).bind fun t233 => (if t233 = true then (some (a0_1 == 9221120237041090560)) else (some true))) else (some false)) else (if a0_0 = 2 then (if a0_1 = 0 then (some (decide ((a0_2.size : Int) ≤ 40))) else (some false)) else (if a0_0 = 3 then (if a0_1 = 0 then (some (a0_2.toList == ([] : List UInt8))) else (some false)) else (if a0_0 = 4 then (if a0_1 = 0 then (some (a0_2.toList == ([] : List UInt8))) else (some false)) else (if a0_0 = 5 then (if a0_1 = 0 then (some (a0_2.toList == ([] : List UInt8))) else (some false)) else (some false)))))) = some r := h
  clear h
  by_cases c2 : a0_0 = 1
  · rw [if_pos c2] at H
    have c2b0 : (a0_0 == 1) = true := beq_iff_eq.mpr c2
    have c2b1 : (a0_0 != 1) = false := bne_eq_false_iff_eq.mpr c2
    clear c2
    by_cases c3 : a0_2.toList = ([] : List UInt8)
    · rw [if_pos c3] at H
      have c3b0 : (a0_2.toList == ([] : List UInt8)) = true := beq_iff_eq.mpr c3
      have c3b1 : (a0_2.toList != ([] : List UInt8)) = false := bne_eq_false_iff_eq.mpr c3
      clear c3
      replace H := Option.bind_eq_some_iff.mp H
      obtain ⟨t233, A40, H⟩ := H
      replace H : (if t233 = true then (some (a0_1 == 9221120237041090560)) else (some true)) = some r := H
      have A4 := Aside0.mk A40
      clear A40
      by_cases c5 : t233 = true
      · subst c5
        have H1 : (some (a0_1 == 9221120237041090560)) = some r := by rw [if_pos rfl] at H; exact H
        clear H
        have H := H1
        clear H1
        obtain rfl := Option.some.inj H
        go_enter Try.func93, Try.ntmps93
        go_wp2_with (first | ((with_reducible refine gate_dst (N := 1) rfl ?_); (try (refine gate_guard (by rfl) ?_; dsimp only)); refine box_event ?hg (N := 1) ?hd (cs := #[.int .i64 a0_0, .int .u64 a0_1, .string a0_2]) (t := 100) ?hr ?_; (case hd => rfl); (case hg => rfl); (case hr => first | (go_simp; done) | (go_simp; rfl)); intro gb232 hg w6 hbox hb; have n0_ := Aside0.mk (below_step (by repeat (first | (with_reducible first | exact HB.out | apply below_alloc | apply pw_below_drewN | apply below_drew1) | exact HB.out)) hb); have n1_ := Aside0.mk (hbox); have n2_ := Aside0.mk ((by rw [hg]; exact (below_size (by repeat (first | (with_reducible first | exact HB.out | apply below_alloc | apply pw_below_drewN | apply below_drew1) | exact HB.out))) : w.heap.size ≤ gb232)); have n3_ := Aside0.mk ((by rw [hg]; exact (below_size (by repeat (first | (with_reducible first | exact HB.out | apply below_alloc | apply pw_below_drewN | apply below_drew1) | exact HB.out))) : w.heap.size ≤ gb232)); clear HB; have HB := n0_; have BK232 := n1_; have GW232 := n2_; have GE232 := n3_; clear n0_ n1_ n2_ n3_; clear hb hbox hg; have hcz7_0 : w6.cell? ⟨gb232, 0, none⟩ = some (.int .i64 a0_0) := (blk_cell BK232.out 0).trans rfl; have hcz7_1 : w6.cell? ⟨gb232, 1, none⟩ = some (.int .u64 a0_1) := (blk_cell BK232.out 1).trans rfl; have hcz7_2 : w6.cell? ⟨gb232, 2, none⟩ = some (.string a0_2) := (blk_cell BK232.out 2).trans rfl; have hfz7_0 := blk_frozen BK232.out 0; have hfz7_1 := blk_frozen BK232.out 1; have hfz7_2 := blk_frozen BK232.out 2) | (go_at_call 131; (with_reducible refine (spec_l03Nan.calls k a0_1 true _ A4.out).mono ?_); rintro e w8 ⟨rfl, hb⟩; have n0_ := Aside0.mk (blk_below (g := gb232) (o := .cells #[.int .i64 a0_0, .int .u64 a0_1, .string a0_2] 100 (0, 0)) (by (with_reducible repeat (first | refine blk_drewN ?_ _ | refine blk_drew ?_ | refine blk_alloc ?_ _)); exact BK232.out) hb); have n1_ := Aside0.mk (below_step (by repeat (first | (with_reducible first | exact HB.out | apply below_alloc | apply pw_below_drewN | apply below_drew1 | refine below_set ?_ GE232.out) | exact HB.out)) hb); clear BK232; clear HB; have BK232 := n0_; have HB := n1_; clear n0_ n1_; (try clear hb); (try clear hb2); (try clear hk); (try clear hi); have hcz9_0 : w8.cell? ⟨gb232, 0, none⟩ = some (.int .i64 a0_0) := (blk_cell BK232.out 0).trans rfl; have hcz9_1 : w8.cell? ⟨gb232, 1, none⟩ = some (.int .u64 a0_1) := (blk_cell BK232.out 1).trans rfl; have hcz9_2 : w8.cell? ⟨gb232, 2, none⟩ = some (.string a0_2) := (blk_cell BK232.out 2).trans rfl; have hfz9_0 := blk_frozen BK232.out 0; have hfz9_1 := blk_frozen BK232.out 1; have hfz9_2 := blk_frozen BK232.out 2))
        go_ret
        exact ⟨by first | rfl | (simp; done) | (simp [errW_none, errW_some] <;> rfl) | (simp [*, errW_none, errW_some] <;> rfl) | (simp [bne, List.isEmpty_iff]; done) | (rw [Bool.eq_iff_iff]; simp), by repeat (first | (with_reducible first | exact HB.out | apply below_alloc | apply pw_below_drewN | apply below_drew1 | refine below_set ?_ GE232.out) | exact HB.out)⟩
      · replace c5 := Bool.eq_false_iff.mpr c5
        subst c5
        have H1 : (some true) = some r := by rw [if_neg (show ¬ (false = true) by decide)] at H; exact H
        clear H
        have H := H1
        clear H1
        obtain rfl := Option.some.inj H
        go_enter Try.func93, Try.ntmps93
        go_wp2_with (first | ((with_reducible refine gate_dst (N := 1) rfl ?_); (try (refine gate_guard (by rfl) ?_; dsimp only)); refine box_event ?hg (N := 1) ?hd (cs := #[.int .i64 a0_0, .int .u64 a0_1, .string a0_2]) (t := 100) ?hr ?_; (case hd => rfl); (case hg => rfl); (case hr => first | (go_simp; done) | (go_simp; rfl)); intro gb232 hg w10 hbox hb; have n0_ := Aside0.mk (below_step (by repeat (first | (with_reducible first | exact HB.out | apply below_alloc | apply pw_below_drewN | apply below_drew1) | exact HB.out)) hb); have n1_ := Aside0.mk (hbox); have n2_ := Aside0.mk ((by rw [hg]; exact (below_size (by repeat (first | (with_reducible first | exact HB.out | apply below_alloc | apply pw_below_drewN | apply below_drew1) | exact HB.out))) : w.heap.size ≤ gb232)); have n3_ := Aside0.mk ((by rw [hg]; exact (below_size (by repeat (first | (with_reducible first | exact HB.out | apply below_alloc | apply pw_below_drewN | apply below_drew1) | exact HB.out))) : w.heap.size ≤ gb232)); clear HB; have HB := n0_; have BK232 := n1_; have GW232 := n2_; have GE232 := n3_; clear n0_ n1_ n2_ n3_; clear hb hbox hg; have hcz11_0 : w10.cell? ⟨gb232, 0, none⟩ = some (.int .i64 a0_0) := (blk_cell BK232.out 0).trans rfl; have hcz11_1 : w10.cell? ⟨gb232, 1, none⟩ = some (.int .u64 a0_1) := (blk_cell BK232.out 1).trans rfl; have hcz11_2 : w10.cell? ⟨gb232, 2, none⟩ = some (.string a0_2) := (blk_cell BK232.out 2).trans rfl; have hfz11_0 := blk_frozen BK232.out 0; have hfz11_1 := blk_frozen BK232.out 1; have hfz11_2 := blk_frozen BK232.out 2) | (go_at_call 131; (with_reducible refine (spec_l03Nan.calls k a0_1 false _ A4.out).mono ?_); rintro e w12 ⟨rfl, hb⟩; have n0_ := Aside0.mk (blk_below (g := gb232) (o := .cells #[.int .i64 a0_0, .int .u64 a0_1, .string a0_2] 100 (0, 0)) (by (with_reducible repeat (first | refine blk_drewN ?_ _ | refine blk_drew ?_ | refine blk_alloc ?_ _)); exact BK232.out) hb); have n1_ := Aside0.mk (below_step (by repeat (first | (with_reducible first | exact HB.out | apply below_alloc | apply pw_below_drewN | apply below_drew1 | refine below_set ?_ GE232.out) | exact HB.out)) hb); clear BK232; clear HB; have BK232 := n0_; have HB := n1_; clear n0_ n1_; (try clear hb); (try clear hb2); (try clear hk); (try clear hi)))
        go_ret
        exact ⟨by first | rfl | (simp; done) | (simp [errW_none, errW_some] <;> rfl) | (simp [*, errW_none, errW_some] <;> rfl) | (simp [bne, List.isEmpty_iff]; done) | (rw [Bool.eq_iff_iff]; simp), by repeat (first | (with_reducible first | exact HB.out | apply below_alloc | apply pw_below_drewN | apply below_drew1 | refine below_set ?_ GE232.out) | exact HB.out)⟩
    · rw [if_neg c3] at H
      have c3b0 : (a0_2.toList == ([] : List UInt8)) = false := beq_eq_false_iff_ne.mpr c3
      have c3b1 : (a0_2.toList != ([] : List UInt8)) = true := bne_iff_ne.mpr c3
      obtain rfl := Option.some.inj H
      go_enter Try.func93, Try.ntmps93
      go_wp2_with (first | ((with_reducible refine gate_dst (N := 1) rfl ?_); (try (refine gate_guard (by rfl) ?_; dsimp only)); refine box_event ?hg (N := 1) ?hd (cs := #[.int .i64 a0_0, .int .u64 a0_1, .string a0_2]) (t := 100) ?hr ?_; (case hd => rfl); (case hg => rfl); (case hr => first | (go_simp; done) | (go_simp; rfl)); intro gb232 hg w13 hbox hb; have n0_ := Aside0.mk (below_step (by repeat (first | (with_reducible first | exact HB.out | apply below_alloc | apply pw_below_drewN | apply below_drew1) | exact HB.out)) hb); have n1_ := Aside0.mk (hbox); have n2_ := Aside0.mk ((by rw [hg]; exact (below_size (by repeat (first | (with_reducible first | exact HB.out | apply below_alloc | apply pw_below_drewN | apply below_drew1) | exact HB.out))) : w.heap.size ≤ gb232)); have n3_ := Aside0.mk ((by rw [hg]; exact (below_size (by repeat (first | (with_reducible first | exact HB.out | apply below_alloc | apply pw_below_drewN | apply below_drew1) | exact HB.out))) : w.heap.size ≤ gb232)); clear HB; have HB := n0_; have BK232 := n1_; have GW232 := n2_; have GE232 := n3_; clear n0_ n1_ n2_ n3_; clear hb hbox hg; have hcz14_0 : w13.cell? ⟨gb232, 0, none⟩ = some (.int .i64 a0_0) := (blk_cell BK232.out 0).trans rfl; have hcz14_1 : w13.cell? ⟨gb232, 1, none⟩ = some (.int .u64 a0_1) := (blk_cell BK232.out 1).trans rfl; have hcz14_2 : w13.cell? ⟨gb232, 2, none⟩ = some (.string a0_2) := (blk_cell BK232.out 2).trans rfl; have hfz14_0 := blk_frozen BK232.out 0; have hfz14_1 := blk_frozen BK232.out 1; have hfz14_2 := blk_frozen BK232.out 2))
      go_ret
      exact ⟨by first | rfl | (simp; done) | (simp [errW_none, errW_some] <;> rfl) | (simp [*, errW_none, errW_some] <;> rfl) | (simp [bne, List.isEmpty_iff]; done) | (rw [Bool.eq_iff_iff]; simp), by repeat (first | (with_reducible first | exact HB.out | apply below_alloc | apply pw_below_drewN | apply below_drew1 | refine below_set ?_ GE232.out) | exact HB.out)⟩
  · rw [if_neg c2] at H
    have c2b0 : (a0_0 == 1) = false := beq_eq_false_iff_ne.mpr c2
    have c2b1 : (a0_0 != 1) = true := bne_iff_ne.mpr c2
    by_cases c15 : a0_0 = 2
    · rw [if_pos c15] at H
      have c15b0 : (a0_0 == 2) = true := beq_iff_eq.mpr c15
      have c15b1 : (a0_0 != 2) = false := bne_eq_false_iff_eq.mpr c15
      clear c15
      by_cases c16 : a0_1 = 0
      · rw [if_pos c16] at H
        have c16b0 : (a0_1 == 0) = true := beq_iff_eq.mpr c16
        have c16b1 : (a0_1 != 0) = false := bne_eq_false_iff_eq.mpr c16
        clear c16
        obtain rfl := Option.some.inj H
        go_enter Try.func93, Try.ntmps93
        go_wp2_with (first | ((with_reducible refine gate_dst (N := 1) rfl ?_); (try (refine gate_guard (by rfl) ?_; dsimp only)); refine box_event ?hg (N := 1) ?hd (cs := #[.int .i64 a0_0, .int .u64 a0_1, .string a0_2]) (t := 100) ?hr ?_; (case hd => rfl); (case hg => rfl); (case hr => first | (go_simp; done) | (go_simp; rfl)); intro gb232 hg w17 hbox hb; have n0_ := Aside0.mk (below_step (by repeat (first | (with_reducible first | exact HB.out | apply below_alloc | apply pw_below_drewN | apply below_drew1) | exact HB.out)) hb); have n1_ := Aside0.mk (hbox); have n2_ := Aside0.mk ((by rw [hg]; exact (below_size (by repeat (first | (with_reducible first | exact HB.out | apply below_alloc | apply pw_below_drewN | apply below_drew1) | exact HB.out))) : w.heap.size ≤ gb232)); have n3_ := Aside0.mk ((by rw [hg]; exact (below_size (by repeat (first | (with_reducible first | exact HB.out | apply below_alloc | apply pw_below_drewN | apply below_drew1) | exact HB.out))) : w.heap.size ≤ gb232)); clear HB; have HB := n0_; have BK232 := n1_; have GW232 := n2_; have GE232 := n3_; clear n0_ n1_ n2_ n3_; clear hb hbox hg; have hcz18_0 : w17.cell? ⟨gb232, 0, none⟩ = some (.int .i64 a0_0) := (blk_cell BK232.out 0).trans rfl; have hcz18_1 : w17.cell? ⟨gb232, 1, none⟩ = some (.int .u64 a0_1) := (blk_cell BK232.out 1).trans rfl; have hcz18_2 : w17.cell? ⟨gb232, 2, none⟩ = some (.string a0_2) := (blk_cell BK232.out 2).trans rfl; have hfz18_0 := blk_frozen BK232.out 0; have hfz18_1 := blk_frozen BK232.out 1; have hfz18_2 := blk_frozen BK232.out 2))
        go_ret
        exact ⟨by first | rfl | (simp; done) | (simp [errW_none, errW_some] <;> rfl) | (simp [*, errW_none, errW_some] <;> rfl) | (simp [bne, List.isEmpty_iff]; done) | (rw [Bool.eq_iff_iff]; simp), by repeat (first | (with_reducible first | exact HB.out | apply below_alloc | apply pw_below_drewN | apply below_drew1 | refine below_set ?_ GE232.out) | exact HB.out)⟩
      · rw [if_neg c16] at H
        have c16b0 : (a0_1 == 0) = false := beq_eq_false_iff_ne.mpr c16
        have c16b1 : (a0_1 != 0) = true := bne_iff_ne.mpr c16
        obtain rfl := Option.some.inj H
        go_enter Try.func93, Try.ntmps93
        go_wp2_with (first | ((with_reducible refine gate_dst (N := 1) rfl ?_); (try (refine gate_guard (by rfl) ?_; dsimp only)); refine box_event ?hg (N := 1) ?hd (cs := #[.int .i64 a0_0, .int .u64 a0_1, .string a0_2]) (t := 100) ?hr ?_; (case hd => rfl); (case hg => rfl); (case hr => first | (go_simp; done) | (go_simp; rfl)); intro gb232 hg w19 hbox hb; have n0_ := Aside0.mk (below_step (by repeat (first | (with_reducible first | exact HB.out | apply below_alloc | apply pw_below_drewN | apply below_drew1) | exact HB.out)) hb); have n1_ := Aside0.mk (hbox); have n2_ := Aside0.mk ((by rw [hg]; exact (below_size (by repeat (first | (with_reducible first | exact HB.out | apply below_alloc | apply pw_below_drewN | apply below_drew1) | exact HB.out))) : w.heap.size ≤ gb232)); have n3_ := Aside0.mk ((by rw [hg]; exact (below_size (by repeat (first | (with_reducible first | exact HB.out | apply below_alloc | apply pw_below_drewN | apply below_drew1) | exact HB.out))) : w.heap.size ≤ gb232)); clear HB; have HB := n0_; have BK232 := n1_; have GW232 := n2_; have GE232 := n3_; clear n0_ n1_ n2_ n3_; clear hb hbox hg; have hcz20_0 : w19.cell? ⟨gb232, 0, none⟩ = some (.int .i64 a0_0) := (blk_cell BK232.out 0).trans rfl; have hcz20_1 : w19.cell? ⟨gb232, 1, none⟩ = some (.int .u64 a0_1) := (blk_cell BK232.out 1).trans rfl; have hcz20_2 : w19.cell? ⟨gb232, 2, none⟩ = some (.string a0_2) := (blk_cell BK232.out 2).trans rfl; have hfz20_0 := blk_frozen BK232.out 0; have hfz20_1 := blk_frozen BK232.out 1; have hfz20_2 := blk_frozen BK232.out 2))
        go_ret
        exact ⟨by first | rfl | (simp; done) | (simp [errW_none, errW_some] <;> rfl) | (simp [*, errW_none, errW_some] <;> rfl) | (simp [bne, List.isEmpty_iff]; done) | (rw [Bool.eq_iff_iff]; simp), by repeat (first | (with_reducible first | exact HB.out | apply below_alloc | apply pw_below_drewN | apply below_drew1 | refine below_set ?_ GE232.out) | exact HB.out)⟩
    · rw [if_neg c15] at H
      have c15b0 : (a0_0 == 2) = false := beq_eq_false_iff_ne.mpr c15
      have c15b1 : (a0_0 != 2) = true := bne_iff_ne.mpr c15
      by_cases c21 : a0_0 = 3
      · rw [if_pos c21] at H
        have c21b0 : (a0_0 == 3) = true := beq_iff_eq.mpr c21
        have c21b1 : (a0_0 != 3) = false := bne_eq_false_iff_eq.mpr c21
        clear c21
        by_cases c22 : a0_1 = 0
        · rw [if_pos c22] at H
          have c22b0 : (a0_1 == 0) = true := beq_iff_eq.mpr c22
          have c22b1 : (a0_1 != 0) = false := bne_eq_false_iff_eq.mpr c22
          clear c22
          obtain rfl := Option.some.inj H
          go_enter Try.func93, Try.ntmps93
          go_wp2_with (first | ((with_reducible refine gate_dst (N := 1) rfl ?_); (try (refine gate_guard (by rfl) ?_; dsimp only)); refine box_event ?hg (N := 1) ?hd (cs := #[.int .i64 a0_0, .int .u64 a0_1, .string a0_2]) (t := 100) ?hr ?_; (case hd => rfl); (case hg => rfl); (case hr => first | (go_simp; done) | (go_simp; rfl)); intro gb232 hg w23 hbox hb; have n0_ := Aside0.mk (below_step (by repeat (first | (with_reducible first | exact HB.out | apply below_alloc | apply pw_below_drewN | apply below_drew1) | exact HB.out)) hb); have n1_ := Aside0.mk (hbox); have n2_ := Aside0.mk ((by rw [hg]; exact (below_size (by repeat (first | (with_reducible first | exact HB.out | apply below_alloc | apply pw_below_drewN | apply below_drew1) | exact HB.out))) : w.heap.size ≤ gb232)); have n3_ := Aside0.mk ((by rw [hg]; exact (below_size (by repeat (first | (with_reducible first | exact HB.out | apply below_alloc | apply pw_below_drewN | apply below_drew1) | exact HB.out))) : w.heap.size ≤ gb232)); clear HB; have HB := n0_; have BK232 := n1_; have GW232 := n2_; have GE232 := n3_; clear n0_ n1_ n2_ n3_; clear hb hbox hg; have hcz24_0 : w23.cell? ⟨gb232, 0, none⟩ = some (.int .i64 a0_0) := (blk_cell BK232.out 0).trans rfl; have hcz24_1 : w23.cell? ⟨gb232, 1, none⟩ = some (.int .u64 a0_1) := (blk_cell BK232.out 1).trans rfl; have hcz24_2 : w23.cell? ⟨gb232, 2, none⟩ = some (.string a0_2) := (blk_cell BK232.out 2).trans rfl; have hfz24_0 := blk_frozen BK232.out 0; have hfz24_1 := blk_frozen BK232.out 1; have hfz24_2 := blk_frozen BK232.out 2))
          go_ret
          exact ⟨by first | rfl | (simp; done) | (simp [errW_none, errW_some] <;> rfl) | (simp [*, errW_none, errW_some] <;> rfl) | (simp [bne, List.isEmpty_iff]; done) | (rw [Bool.eq_iff_iff]; simp), by repeat (first | (with_reducible first | exact HB.out | apply below_alloc | apply pw_below_drewN | apply below_drew1 | refine below_set ?_ GE232.out) | exact HB.out)⟩
        · rw [if_neg c22] at H
          have c22b0 : (a0_1 == 0) = false := beq_eq_false_iff_ne.mpr c22
          have c22b1 : (a0_1 != 0) = true := bne_iff_ne.mpr c22
          obtain rfl := Option.some.inj H
          go_enter Try.func93, Try.ntmps93
          go_wp2_with (first | ((with_reducible refine gate_dst (N := 1) rfl ?_); (try (refine gate_guard (by rfl) ?_; dsimp only)); refine box_event ?hg (N := 1) ?hd (cs := #[.int .i64 a0_0, .int .u64 a0_1, .string a0_2]) (t := 100) ?hr ?_; (case hd => rfl); (case hg => rfl); (case hr => first | (go_simp; done) | (go_simp; rfl)); intro gb232 hg w25 hbox hb; have n0_ := Aside0.mk (below_step (by repeat (first | (with_reducible first | exact HB.out | apply below_alloc | apply pw_below_drewN | apply below_drew1) | exact HB.out)) hb); have n1_ := Aside0.mk (hbox); have n2_ := Aside0.mk ((by rw [hg]; exact (below_size (by repeat (first | (with_reducible first | exact HB.out | apply below_alloc | apply pw_below_drewN | apply below_drew1) | exact HB.out))) : w.heap.size ≤ gb232)); have n3_ := Aside0.mk ((by rw [hg]; exact (below_size (by repeat (first | (with_reducible first | exact HB.out | apply below_alloc | apply pw_below_drewN | apply below_drew1) | exact HB.out))) : w.heap.size ≤ gb232)); clear HB; have HB := n0_; have BK232 := n1_; have GW232 := n2_; have GE232 := n3_; clear n0_ n1_ n2_ n3_; clear hb hbox hg; have hcz26_0 : w25.cell? ⟨gb232, 0, none⟩ = some (.int .i64 a0_0) := (blk_cell BK232.out 0).trans rfl; have hcz26_1 : w25.cell? ⟨gb232, 1, none⟩ = some (.int .u64 a0_1) := (blk_cell BK232.out 1).trans rfl; have hcz26_2 : w25.cell? ⟨gb232, 2, none⟩ = some (.string a0_2) := (blk_cell BK232.out 2).trans rfl; have hfz26_0 := blk_frozen BK232.out 0; have hfz26_1 := blk_frozen BK232.out 1; have hfz26_2 := blk_frozen BK232.out 2))
          go_ret
          exact ⟨by first | rfl | (simp; done) | (simp [errW_none, errW_some] <;> rfl) | (simp [*, errW_none, errW_some] <;> rfl) | (simp [bne, List.isEmpty_iff]; done) | (rw [Bool.eq_iff_iff]; simp), by repeat (first | (with_reducible first | exact HB.out | apply below_alloc | apply pw_below_drewN | apply below_drew1 | refine below_set ?_ GE232.out) | exact HB.out)⟩
      · rw [if_neg c21] at H
        have c21b0 : (a0_0 == 3) = false := beq_eq_false_iff_ne.mpr c21
        have c21b1 : (a0_0 != 3) = true := bne_iff_ne.mpr c21
        by_cases c27 : a0_0 = 4
        · rw [if_pos c27] at H
          have c27b0 : (a0_0 == 4) = true := beq_iff_eq.mpr c27
          have c27b1 : (a0_0 != 4) = false := bne_eq_false_iff_eq.mpr c27
          clear c27
          by_cases c28 : a0_1 = 0
          · rw [if_pos c28] at H
            have c28b0 : (a0_1 == 0) = true := beq_iff_eq.mpr c28
            have c28b1 : (a0_1 != 0) = false := bne_eq_false_iff_eq.mpr c28
            clear c28
            obtain rfl := Option.some.inj H
            go_enter Try.func93, Try.ntmps93
            go_wp2_with (first | ((with_reducible refine gate_dst (N := 1) rfl ?_); (try (refine gate_guard (by rfl) ?_; dsimp only)); refine box_event ?hg (N := 1) ?hd (cs := #[.int .i64 a0_0, .int .u64 a0_1, .string a0_2]) (t := 100) ?hr ?_; (case hd => rfl); (case hg => rfl); (case hr => first | (go_simp; done) | (go_simp; rfl)); intro gb232 hg w29 hbox hb; have n0_ := Aside0.mk (below_step (by repeat (first | (with_reducible first | exact HB.out | apply below_alloc | apply pw_below_drewN | apply below_drew1) | exact HB.out)) hb); have n1_ := Aside0.mk (hbox); have n2_ := Aside0.mk ((by rw [hg]; exact (below_size (by repeat (first | (with_reducible first | exact HB.out | apply below_alloc | apply pw_below_drewN | apply below_drew1) | exact HB.out))) : w.heap.size ≤ gb232)); have n3_ := Aside0.mk ((by rw [hg]; exact (below_size (by repeat (first | (with_reducible first | exact HB.out | apply below_alloc | apply pw_below_drewN | apply below_drew1) | exact HB.out))) : w.heap.size ≤ gb232)); clear HB; have HB := n0_; have BK232 := n1_; have GW232 := n2_; have GE232 := n3_; clear n0_ n1_ n2_ n3_; clear hb hbox hg; have hcz30_0 : w29.cell? ⟨gb232, 0, none⟩ = some (.int .i64 a0_0) := (blk_cell BK232.out 0).trans rfl; have hcz30_1 : w29.cell? ⟨gb232, 1, none⟩ = some (.int .u64 a0_1) := (blk_cell BK232.out 1).trans rfl; have hcz30_2 : w29.cell? ⟨gb232, 2, none⟩ = some (.string a0_2) := (blk_cell BK232.out 2).trans rfl; have hfz30_0 := blk_frozen BK232.out 0; have hfz30_1 := blk_frozen BK232.out 1; have hfz30_2 := blk_frozen BK232.out 2))
            go_ret
            exact ⟨by first | rfl | (simp; done) | (simp [errW_none, errW_some] <;> rfl) | (simp [*, errW_none, errW_some] <;> rfl) | (simp [bne, List.isEmpty_iff]; done) | (rw [Bool.eq_iff_iff]; simp), by repeat (first | (with_reducible first | exact HB.out | apply below_alloc | apply pw_below_drewN | apply below_drew1 | refine below_set ?_ GE232.out) | exact HB.out)⟩
          · rw [if_neg c28] at H
            have c28b0 : (a0_1 == 0) = false := beq_eq_false_iff_ne.mpr c28
            have c28b1 : (a0_1 != 0) = true := bne_iff_ne.mpr c28
            obtain rfl := Option.some.inj H
            go_enter Try.func93, Try.ntmps93
            go_wp2_with (first | ((with_reducible refine gate_dst (N := 1) rfl ?_); (try (refine gate_guard (by rfl) ?_; dsimp only)); refine box_event ?hg (N := 1) ?hd (cs := #[.int .i64 a0_0, .int .u64 a0_1, .string a0_2]) (t := 100) ?hr ?_; (case hd => rfl); (case hg => rfl); (case hr => first | (go_simp; done) | (go_simp; rfl)); intro gb232 hg w31 hbox hb; have n0_ := Aside0.mk (below_step (by repeat (first | (with_reducible first | exact HB.out | apply below_alloc | apply pw_below_drewN | apply below_drew1) | exact HB.out)) hb); have n1_ := Aside0.mk (hbox); have n2_ := Aside0.mk ((by rw [hg]; exact (below_size (by repeat (first | (with_reducible first | exact HB.out | apply below_alloc | apply pw_below_drewN | apply below_drew1) | exact HB.out))) : w.heap.size ≤ gb232)); have n3_ := Aside0.mk ((by rw [hg]; exact (below_size (by repeat (first | (with_reducible first | exact HB.out | apply below_alloc | apply pw_below_drewN | apply below_drew1) | exact HB.out))) : w.heap.size ≤ gb232)); clear HB; have HB := n0_; have BK232 := n1_; have GW232 := n2_; have GE232 := n3_; clear n0_ n1_ n2_ n3_; clear hb hbox hg; have hcz32_0 : w31.cell? ⟨gb232, 0, none⟩ = some (.int .i64 a0_0) := (blk_cell BK232.out 0).trans rfl; have hcz32_1 : w31.cell? ⟨gb232, 1, none⟩ = some (.int .u64 a0_1) := (blk_cell BK232.out 1).trans rfl; have hcz32_2 : w31.cell? ⟨gb232, 2, none⟩ = some (.string a0_2) := (blk_cell BK232.out 2).trans rfl; have hfz32_0 := blk_frozen BK232.out 0; have hfz32_1 := blk_frozen BK232.out 1; have hfz32_2 := blk_frozen BK232.out 2))
            go_ret
            exact ⟨by first | rfl | (simp; done) | (simp [errW_none, errW_some] <;> rfl) | (simp [*, errW_none, errW_some] <;> rfl) | (simp [bne, List.isEmpty_iff]; done) | (rw [Bool.eq_iff_iff]; simp), by repeat (first | (with_reducible first | exact HB.out | apply below_alloc | apply pw_below_drewN | apply below_drew1 | refine below_set ?_ GE232.out) | exact HB.out)⟩
        · rw [if_neg c27] at H
          have c27b0 : (a0_0 == 4) = false := beq_eq_false_iff_ne.mpr c27
          have c27b1 : (a0_0 != 4) = true := bne_iff_ne.mpr c27
          by_cases c33 : a0_0 = 5
          · rw [if_pos c33] at H
            have c33b0 : (a0_0 == 5) = true := beq_iff_eq.mpr c33
            have c33b1 : (a0_0 != 5) = false := bne_eq_false_iff_eq.mpr c33
            clear c33
            by_cases c34 : a0_1 = 0
            · rw [if_pos c34] at H
              have c34b0 : (a0_1 == 0) = true := beq_iff_eq.mpr c34
              have c34b1 : (a0_1 != 0) = false := bne_eq_false_iff_eq.mpr c34
              clear c34
              obtain rfl := Option.some.inj H
              go_enter Try.func93, Try.ntmps93
              go_wp2_with (first | ((with_reducible refine gate_dst (N := 1) rfl ?_); (try (refine gate_guard (by rfl) ?_; dsimp only)); refine box_event ?hg (N := 1) ?hd (cs := #[.int .i64 a0_0, .int .u64 a0_1, .string a0_2]) (t := 100) ?hr ?_; (case hd => rfl); (case hg => rfl); (case hr => first | (go_simp; done) | (go_simp; rfl)); intro gb232 hg w35 hbox hb; have n0_ := Aside0.mk (below_step (by repeat (first | (with_reducible first | exact HB.out | apply below_alloc | apply pw_below_drewN | apply below_drew1) | exact HB.out)) hb); have n1_ := Aside0.mk (hbox); have n2_ := Aside0.mk ((by rw [hg]; exact (below_size (by repeat (first | (with_reducible first | exact HB.out | apply below_alloc | apply pw_below_drewN | apply below_drew1) | exact HB.out))) : w.heap.size ≤ gb232)); have n3_ := Aside0.mk ((by rw [hg]; exact (below_size (by repeat (first | (with_reducible first | exact HB.out | apply below_alloc | apply pw_below_drewN | apply below_drew1) | exact HB.out))) : w.heap.size ≤ gb232)); clear HB; have HB := n0_; have BK232 := n1_; have GW232 := n2_; have GE232 := n3_; clear n0_ n1_ n2_ n3_; clear hb hbox hg; have hcz36_0 : w35.cell? ⟨gb232, 0, none⟩ = some (.int .i64 a0_0) := (blk_cell BK232.out 0).trans rfl; have hcz36_1 : w35.cell? ⟨gb232, 1, none⟩ = some (.int .u64 a0_1) := (blk_cell BK232.out 1).trans rfl; have hcz36_2 : w35.cell? ⟨gb232, 2, none⟩ = some (.string a0_2) := (blk_cell BK232.out 2).trans rfl; have hfz36_0 := blk_frozen BK232.out 0; have hfz36_1 := blk_frozen BK232.out 1; have hfz36_2 := blk_frozen BK232.out 2))
              go_ret
              exact ⟨by first | rfl | (simp; done) | (simp [errW_none, errW_some] <;> rfl) | (simp [*, errW_none, errW_some] <;> rfl) | (simp [bne, List.isEmpty_iff]; done) | (rw [Bool.eq_iff_iff]; simp), by repeat (first | (with_reducible first | exact HB.out | apply below_alloc | apply pw_below_drewN | apply below_drew1 | refine below_set ?_ GE232.out) | exact HB.out)⟩
            · rw [if_neg c34] at H
              have c34b0 : (a0_1 == 0) = false := beq_eq_false_iff_ne.mpr c34
              have c34b1 : (a0_1 != 0) = true := bne_iff_ne.mpr c34
              obtain rfl := Option.some.inj H
              go_enter Try.func93, Try.ntmps93
              go_wp2_with (first | ((with_reducible refine gate_dst (N := 1) rfl ?_); (try (refine gate_guard (by rfl) ?_; dsimp only)); refine box_event ?hg (N := 1) ?hd (cs := #[.int .i64 a0_0, .int .u64 a0_1, .string a0_2]) (t := 100) ?hr ?_; (case hd => rfl); (case hg => rfl); (case hr => first | (go_simp; done) | (go_simp; rfl)); intro gb232 hg w37 hbox hb; have n0_ := Aside0.mk (below_step (by repeat (first | (with_reducible first | exact HB.out | apply below_alloc | apply pw_below_drewN | apply below_drew1) | exact HB.out)) hb); have n1_ := Aside0.mk (hbox); have n2_ := Aside0.mk ((by rw [hg]; exact (below_size (by repeat (first | (with_reducible first | exact HB.out | apply below_alloc | apply pw_below_drewN | apply below_drew1) | exact HB.out))) : w.heap.size ≤ gb232)); have n3_ := Aside0.mk ((by rw [hg]; exact (below_size (by repeat (first | (with_reducible first | exact HB.out | apply below_alloc | apply pw_below_drewN | apply below_drew1) | exact HB.out))) : w.heap.size ≤ gb232)); clear HB; have HB := n0_; have BK232 := n1_; have GW232 := n2_; have GE232 := n3_; clear n0_ n1_ n2_ n3_; clear hb hbox hg; have hcz38_0 : w37.cell? ⟨gb232, 0, none⟩ = some (.int .i64 a0_0) := (blk_cell BK232.out 0).trans rfl; have hcz38_1 : w37.cell? ⟨gb232, 1, none⟩ = some (.int .u64 a0_1) := (blk_cell BK232.out 1).trans rfl; have hcz38_2 : w37.cell? ⟨gb232, 2, none⟩ = some (.string a0_2) := (blk_cell BK232.out 2).trans rfl; have hfz38_0 := blk_frozen BK232.out 0; have hfz38_1 := blk_frozen BK232.out 1; have hfz38_2 := blk_frozen BK232.out 2))
              go_ret
              exact ⟨by first | rfl | (simp; done) | (simp [errW_none, errW_some] <;> rfl) | (simp [*, errW_none, errW_some] <;> rfl) | (simp [bne, List.isEmpty_iff]; done) | (rw [Bool.eq_iff_iff]; simp), by repeat (first | (with_reducible first | exact HB.out | apply below_alloc | apply pw_below_drewN | apply below_drew1 | refine below_set ?_ GE232.out) | exact HB.out)⟩
          · rw [if_neg c33] at H
            have c33b0 : (a0_0 == 5) = false := beq_eq_false_iff_ne.mpr c33
            have c33b1 : (a0_0 != 5) = true := bne_iff_ne.mpr c33
            obtain rfl := Option.some.inj H
            go_enter Try.func93, Try.ntmps93
            go_wp2_with (first | ((with_reducible refine gate_dst (N := 1) rfl ?_); (try (refine gate_guard (by rfl) ?_; dsimp only)); refine box_event ?hg (N := 1) ?hd (cs := #[.int .i64 a0_0, .int .u64 a0_1, .string a0_2]) (t := 100) ?hr ?_; (case hd => rfl); (case hg => rfl); (case hr => first | (go_simp; done) | (go_simp; rfl)); intro gb232 hg w39 hbox hb; have n0_ := Aside0.mk (below_step (by repeat (first | (with_reducible first | exact HB.out | apply below_alloc | apply pw_below_drewN | apply below_drew1) | exact HB.out)) hb); have n1_ := Aside0.mk (hbox); have n2_ := Aside0.mk ((by rw [hg]; exact (below_size (by repeat (first | (with_reducible first | exact HB.out | apply below_alloc | apply pw_below_drewN | apply below_drew1) | exact HB.out))) : w.heap.size ≤ gb232)); have n3_ := Aside0.mk ((by rw [hg]; exact (below_size (by repeat (first | (with_reducible first | exact HB.out | apply below_alloc | apply pw_below_drewN | apply below_drew1) | exact HB.out))) : w.heap.size ≤ gb232)); clear HB; have HB := n0_; have BK232 := n1_; have GW232 := n2_; have GE232 := n3_; clear n0_ n1_ n2_ n3_; clear hb hbox hg; have hcz40_0 : w39.cell? ⟨gb232, 0, none⟩ = some (.int .i64 a0_0) := (blk_cell BK232.out 0).trans rfl; have hcz40_1 : w39.cell? ⟨gb232, 1, none⟩ = some (.int .u64 a0_1) := (blk_cell BK232.out 1).trans rfl; have hcz40_2 : w39.cell? ⟨gb232, 2, none⟩ = some (.string a0_2) := (blk_cell BK232.out 2).trans rfl; have hfz40_0 := blk_frozen BK232.out 0; have hfz40_1 := blk_frozen BK232.out 1; have hfz40_2 := blk_frozen BK232.out 2))
            go_ret
            exact ⟨by first | rfl | (simp; done) | (simp [errW_none, errW_some] <;> rfl) | (simp [*, errW_none, errW_some] <;> rfl) | (simp [bne, List.isEmpty_iff]; done) | (rw [Bool.eq_iff_iff]; simp), by repeat (first | (with_reducible first | exact HB.out | apply below_alloc | apply pw_below_drewN | apply below_drew1 | refine below_set ?_ GE232.out) | exact HB.out)⟩
end Go.Proofs.Ytcbaokflimdjnaa.QFnExactVerify
end
section
namespace Go.Proofs.Ytcbaokflimdjnaa.Img
open Go.RowKit Go.Proofs.YtcbaokflimdjnaaW.PrintWords Go.Proofs.YtcbaokflimdjnaaW.PrintMore Go.Proofs.Ytcbaokflimdjnaa.QFnExactVerify Go.Proofs.Ytcbaokflimdjnaa.Num
set_option linter.unusedVariables false
set_option linter.unusedSimpArgs false
set_option autoImplicit false
theorem up {α : Type} {f : Nat → Option α} (hm : ∀ k, LeO (f k) (f (k + 1))) {k0 : Nat} {r : α} (h : f k0 = some r) {k : Nat} (hk : k0 ≤ k) : f k = some r := by
  obtain ⟨d, rfl⟩ : ∃ d, k = k0 + d := ⟨k - k0, by omega⟩
  clear hk
  induction d with
  | zero => exact h
  | succ d ih => exact hm (k0 + d) r ih
def inB (x lo hi : Int) : Bool := decide (lo ≤ x ∧ x ≤ hi)
theorem spec_in (x lo hi : Int) : spec_l01In.f x lo hi = some (inB x lo hi) := by
  unfold spec_l01In.f inB
  by_cases h : x ≥ lo
  · rw [if_pos h]
    by_cases h2 : x ≤ hi
    · rw [decide_eq_true h2, decide_eq_true ⟨h, h2⟩]
    · rw [decide_eq_false h2, decide_eq_false (fun e => h2 e.2)]
  · rw [if_neg h, decide_eq_false (fun e => h e.1)]
theorem impl_in (x lo hi : Int) : impl_within.f x lo hi = some (inB x lo hi) := spec_in x lo hi
theorem pow63 : spec_l03Pow.f 100 63 = some 9223372036854775808 := by decide +kernel
theorem spec_parts {x : Int} (h0 : 0 ≤ x) (h1 : x < 18446744073709551616) : spec_PartsOfNumber.f 100 x = some (PN x) := by
  unfold spec_PartsOfNumber.f
  have hq := Int.emod_lt_of_pos x (show (0 : Int) < 4503599627370496 by omega)
  have hq0 := Int.emod_nonneg x (show (4503599627370496 : Int) ≠ 0 by omega)
  have e1 : wrap64 (Int.tmod (IntKind.u64.wrap (Int.tdiv x 4503599627370496)) 2048) = x / 4503599627370496 % 2048 := by
    rw [tdiv_pos h0, u64_id (by omega) (by omega), tmod_pos (by omega), wrap64_id (by omega) (by omega)]
  have e2 : Int.tmod x 4503599627370496 = x % 4503599627370496 := tmod_pos h0
  have e3 : IntKind.u64.wrap (Int.tdiv x 9223372036854775808) = x / 9223372036854775808 := by rw [tdiv_pos h0, u64_id (by omega) (by omega)]
  rw [pow63]
  simp only [Option.bind_some, e1, e2, e3]
  rw [if_neg (by omega)]
  unfold PN
  by_cases h2 : x / 4503599627370496 % 2048 = 2047
  · rw [if_pos h2, if_pos h2]
    by_cases h3 : x % 4503599627370496 = 0
    · simp only [spec_PartsOfNumber.j0, h3, bne_self_eq_false, Bool.false_eq_true, if_false, h2, if_true]
    · simp only [spec_PartsOfNumber.j0, (bne_iff_ne.mpr h3), if_true, if_neg h3]
  · rw [if_neg h2, if_neg h2]
    by_cases h4 : x / 4503599627370496 % 2048 = 0
    · by_cases h3 : x % 4503599627370496 = 0
      · simp [spec_PartsOfNumber.j0, spec_PartsOfNumber.j1, h4, h3]
      · simp [spec_PartsOfNumber.j0, spec_PartsOfNumber.j1, h4, h3]
    · rw [if_neg h4]
      simp only [spec_PartsOfNumber.j0, spec_PartsOfNumber.j1, Bool.false_eq_true, if_false, if_neg h2, if_neg h4]
      rw [u64_id (by omega) (by omega), wrap64_id (by omega) (by omega)]
theorem spec_nan {x : Int} (h0 : 0 ≤ x) (h1 : x < 18446744073709551616) : spec_l03Nan.f 100 x = some (isNan x) := by
  unfold spec_l03Nan.f
  rw [spec_parts h0 h1]
  simp only [Option.bind_some]
  rw [PN_nan h0]
theorem impl_nan {x : Int} (h0 : 0 ≤ x) (h1 : x < 18446744073709551616) : impl_isNaN.f x = some (isNan x) := by
  unfold impl_isNaN.f isNan
  rw [and_63 h0 h1]
/-- Of a constant. -/
def constB (x : S100) : Bool :=
  if x.f0 = 1 then (x.f2.toList == ([] : List UInt8)) && (!isNan x.f1 || x.f1 == 9221120237041090560)
  else if x.f0 = 2 then x.f1 == 0 && decide ((x.f2.size : Int) ≤ 40)
  else if x.f0 = 3 ∨ x.f0 = 4 ∨ x.f0 = 5 then x.f1 == 0 && (x.f2.toList == ([] : List UInt8)) else false
theorem beq_nil (l : List UInt8) : (l == ([] : List UInt8)) = decide (l = []) := by cases l <;> rfl
theorem spec_const (x : S100) (h0 : 0 ≤ x.f1) (h1 : x.f1 < 18446744073709551616) {k : Nat} (hk : 100 ≤ k) : spec_ConstOk.f k x.f0 x.f1 x.f2 = some (constB x) := by
  have hn : spec_l03Nan.f k x.f1 = some (isNan x.f1) := up (f := fun k => spec_l03Nan.f k x.f1) (fun k => spec_l03Nan.mono x.f1 k) (spec_nan h0 h1) hk
  unfold spec_ConstOk.f constB
  rw [hn]
  by_cases k1 : x.f0 = 1
  · rw [if_pos k1, if_pos k1, Option.bind_some, beq_nil]
    by_cases ht : x.f2.toList = []
    · rw [if_pos ht, decide_eq_true ht]
      cases isNan x.f1 <;> simp
    · rw [if_neg ht, decide_eq_false ht]; rfl
  · by_cases k2 : x.f0 = 2
    · by_cases hz : x.f1 = 0 <;> simp [k2, hz]
    · by_cases hz : x.f1 = 0 <;> by_cases k3 : x.f0 = 3 <;> by_cases k4 : x.f0 = 4 <;> by_cases k5 : x.f0 = 5 <;> simp [k1, k2, k3, k4, k5, hz]
theorem impl_const (x : S100) (h0 : 0 ≤ x.f1) (h1 : x.f1 < 18446744073709551616) : impl_ConstOk.f x.f0 x.f1 x.f2 = some (constB x) := by
  unfold impl_ConstOk.f constB
  rw [impl_nan h0 h1]
  by_cases k1 : x.f0 = 1
  · rw [if_pos k1, if_pos k1, Option.bind_some, beq_nil]
    cases isNan x.f1
    · simp
    · by_cases hz : x.f1 = 9221120237041090560 <;> simp [hz]
  · by_cases k2 : x.f0 = 2
    · by_cases hl : (x.f2.size : Int) ≤ 40
      · rw [if_neg k1, if_pos k2, if_pos hl, if_neg k1, if_pos k2, decide_eq_true hl, Bool.and_true]
      · rw [if_neg k1, if_pos k2, if_neg hl, if_neg k1, if_pos k2, decide_eq_false hl, Bool.and_false]
    · by_cases hz : x.f1 = 0 <;> by_cases k3 : x.f0 = 3 <;> by_cases k4 : x.f0 = 4 <;> by_cases k5 : x.f0 = 5 <;> simp [k1, k2, k3, k4, k5, hz]
end Go.Proofs.Ytcbaokflimdjnaa.Img
end
section
namespace Go.Proofs.Ytcbaokflimdjnaa
open Go.RowKit Go.Proofs.YtcbaokflimdjnaaW.PrintWords Go.Proofs.YtcbaokflimdjnaaW.PrintMore Go.Proofs.Ytcbaokflimdjnaa.QFnExactVerify Go.Proofs.Ytcbaokflimdjnaa.Law Go.Proofs.Ytcbaokflimdjnaa.Num
set_option linter.unusedVariables false
set_option linter.unusedSimpArgs false
set_option autoImplicit false
theorem el_all {α : Type} {p : α → Bool} (z : α) {l : List α} (h : ∀ i, i < l.length → p (el z l i) = true) : l.all p = true := by
  rw [List.all_eq_true]
  intro x hx
  obtain ⟨i, hi, rfl⟩ := List.mem_iff_getElem.1 hx
  rw [← el_lt z hi]
  exact h i hi
theorem el_not {α : Type} {p : α → Bool} (z : α) {l : List α} {i : Nat} (hi : i < l.length) (h : p (el z l i) = false) : l.all p = false := by
  cases e : l.all p with
  | false => rfl
  | true => rw [List.all_eq_true] at e; rw [e _ (el_mem z hi)] at h; cases h
/-- Of a capture, an instruction, a handler, a constant, a function, an image. -/
def capB (x : Cap) : Bool := Img.inB x.index 0 40
def insB (x : Ins) : Bool := Img.inB x.op 1 19 && (Img.inB x.a 0 300 && Img.inB x.b 0 300)
def hdB (x : Handler) : Bool := Img.inB x.from_ 0 300 && (Img.inB x.to_ 0 300 && Img.inB x.target 0 300)
def constB (x : Const) : Bool := Img.constB ⟨x.kind, x.num, x.text⟩
def funcB (x : Func) : Bool := Img.inB x.params 0 4 && (Img.inB x.regs x.params 40 && (decide ((x.caps.length : Int) ≤ 20) && (Img.inB x.code.length 1 300 && (decide ((x.handlers.length : Int) ≤ 40) && (x.caps.all capB && (x.code.all insB && x.handlers.all hdB))))))
def imgB (x : Image) : Bool := Img.inB x.funcs.length 1 16 && (decide ((x.consts.length : Int) ≤ 40) && (x.consts.all constB && (x.funcs.all funcB && (decide ((el zFunc x.funcs 0).params = 0) && decide ((el zFunc x.funcs 0).caps.length = 0)))))
set_option maxHeartbeats 8000000 in
set_option maxRecDepth 100000 in
theorem cFuncOkS (f : Func) (cs : List Value) (w : World) (hk : kFuncI.K w f cs) :
    Calls Try.prog 94 #[.agg ⟨cs⟩] w fun e w' => e = .returned (.bool (funcB f)) ∧ Below w.heap.size w w' := by
  obtain ⟨A2, c2, A3, c3, A4, c4, rfl, l2, g2, l3, g3, l4, g4⟩ := kFuncI_open hk
  have hu := Try.underlying73; have hu1 := Try.underlying76; have hu2 := Try.underlying107; have hu3 := Try.underlying105; have hu4 := Try.underlying70; have hu5 := Try.underlying71; have hu6 := Try.underlying69
  have G2 := Aside0.mk g2; have G3 := Aside0.mk g3; have G4 := Aside0.mk g4
  clear hk g2 g3 g4 l2 l3 l4
  have M0 := Aside0.mk ((Mem.start w).allocAt rfl #[.int .i64 f.params, .int .i64 f.regs, .slice A2 f.caps.length c2, .slice A3 f.code.length c3, .slice A4 f.handlers.length c4] 73)
  have z_f := M0.out.box (.head _)
  go_enter Try.func94, Try.ntmps94
  go_wp2_with fail
  refine (spec_l01In.calls _ _ _ _ _ (Img.spec_in f.params 0 4)).mono ?_; rintro e ww11 ⟨rfl, ⟨⟨nn11, rfl⟩⟩⟩
  have M11 := Aside0.mk (M0.out.draw nn11); clear M0 z_f
  generalize World.drewN _ nn11 = W11 at M11 ⊢
  have z_f := M11.out.box (.head _)
  rcases Bool.eq_false_or_eq_true (Img.inB f.params 0 4) with hd | hd
  rotate_left
  · rw [hd]
    have HE := Aside0.mk (show funcB f = false by unfold funcB; rw [hd]; simp)
    go_wp2
    go_ret
    exact ⟨by rw [HE.out]; rfl, M11.out.below⟩
  rw [hd]; have H1 := Aside0.mk hd; clear hd
  go_wp2_with fail
  refine (spec_l01In.calls _ _ _ _ _ (Img.spec_in f.regs f.params 40)).mono ?_; rintro e ww12 ⟨rfl, ⟨⟨nn12, rfl⟩⟩⟩
  have M12 := Aside0.mk (M11.out.draw nn12); clear M11 z_f
  generalize World.drewN _ nn12 = W12 at M12 ⊢
  have z_f := M12.out.box (.head _)
  rcases Bool.eq_false_or_eq_true (Img.inB f.regs f.params 40) with hd | hd
  rotate_left
  · rw [hd]
    have HE := Aside0.mk (show funcB f = false by unfold funcB; rw [hd]; simp)
    go_wp2
    go_ret
    exact ⟨by rw [HE.out]; rfl, M12.out.below⟩
  rw [hd]; have H2 := Aside0.mk hd; clear hd
  by_cases hd : (f.caps.length : Int) > 20
  · have hd1 : decide ((f.caps.length : Int) ≤ 20) = false := by simp; omega
    have HE := Aside0.mk (show funcB f = false by unfold funcB; rw [hd1]; simp)
    go_wp2
    go_ret
    exact ⟨by rw [HE.out]; rfl, M12.out.below⟩
  have H3 := Aside0.mk (show decide ((f.caps.length : Int) ≤ 20) = true by simp; omega)
  have hc3 := hd; clear hd
  go_wp2_with fail
  refine (spec_l01In.calls _ _ _ _ _ (Img.spec_in f.code.length 1 300)).mono ?_; rintro e ww13 ⟨rfl, ⟨⟨nn13, rfl⟩⟩⟩
  have M13 := Aside0.mk (M12.out.draw nn13); clear M12 z_f
  generalize World.drewN _ nn13 = W13 at M13 ⊢
  have z_f := M13.out.box (.head _)
  rcases Bool.eq_false_or_eq_true (Img.inB f.code.length 1 300) with hd | hd
  rotate_left
  · rw [hd]
    have HE := Aside0.mk (show funcB f = false by unfold funcB; rw [hd]; simp)
    go_wp2
    go_ret
    exact ⟨by rw [HE.out]; rfl, M13.out.below⟩
  rw [hd]; have H4 := Aside0.mk hd; clear hd
  by_cases hd : (f.handlers.length : Int) > 40
  · have hd1 : decide ((f.handlers.length : Int) ≤ 40) = false := by simp; omega
    have HE := Aside0.mk (show funcB f = false by unfold funcB; rw [hd1]; simp)
    go_wp2
    go_ret
    exact ⟨by rw [HE.out]; rfl, M13.out.below⟩
  have H5 := Aside0.mk (show decide ((f.handlers.length : Int) ≤ 40) = true by simp; omega)
  have hc5 := hd; clear hd
  have hl4 : f.code.length ≤ 300 := by have := of_decide_eq_true H4.out; omega
  go_upto_region 4 with fail
  clear z_f
  go_loopw [3] (fun v wx => ∃ q : Nat, v = .int .i64 q ∧ q ≤ f.caps.length ∧ Aside0 (∀ i, i < q → capB (el zCap f.caps i) = true) ∧ Aside0 (Mem w wx [Hold.box w.heap.size #[.int .i64 f.params, .int .i64 f.regs, .slice A2 f.caps.length c2, .slice A3 f.code.length c3, .slice A4 f.handlers.length c4] 73])) (fun v _ => f.caps.length - (intOf v).toNat)
  case atStart => exact ⟨0, rfl, by omega, ⟨fun i hi => absurd hi (by omega)⟩, M13⟩
  case round =>
  clear M13
  obtain ⟨q, rfl, hq, HALL, Ma⟩ := hrel
  have z_f := Ma.out.box (.head _)
  by_cases hlt : q < f.caps.length
  · have hle : (q : Int) < (f.caps.length : Int) := by omega
    have hq0 : (0 : Int) ≤ (q : Int) := by omega
    obtain ⟨a_, ha_, hK_, k0, k1⟩ := Cap_at G2.out q hlt
    cases ha_
    obtain ⟨y, hye⟩ : ∃ y, y = el zCap f.caps q := ⟨_, rfl⟩
    rw [← hye] at k0 k1
    have HYE := Aside0.mk hye; clear hye hK_
    have y0 := pw_cell_below Ma.out.below k0; clear k0
    have y1 := pw_cell_below Ma.out.below k1; clear k1
    go_wp2_with fail
    refine (spec_l01In.calls _ _ _ _ _ (Img.spec_in y.index 0 40)).mono ?_; rintro e ww14 ⟨rfl, ⟨⟨nn14, rfl⟩⟩⟩
    have M14 := Aside0.mk (Ma.out.draw nn14); clear Ma z_f
    generalize World.drewN _ nn14 = W14 at M14 ⊢
    have z_f := M14.out.box (.head _)
    rcases Bool.eq_false_or_eq_true (Img.inB y.index 0 40) with hd | hd
    rotate_left
    · rw [hd]
      have hn_ := el_not (p := capB) zCap hlt (by rw [← HYE.out]; unfold capB; rw [hd]; first | done | simp)
      have HE := Aside0.mk (show funcB f = false by unfold funcB; rw [hn_]; simp)
      go_wp2
      go_ret
      exact ⟨by rw [HE.out]; rfl, M14.out.below⟩
    rw [hd]; have E0 := Aside0.mk hd; clear hd
    have HALL2 := Aside0.mk (show ∀ i, i < q + 1 → capB (el zCap f.caps i) = true from fun i hi => by
      rcases Nat.lt_succ_iff_lt_or_eq.1 hi with h | h
      · exact HALL.out i h
      · rw [h, ← HYE.out]; unfold capB; rw [E0.out]; first | done | rfl)
    go_wp2
    go_roundw
    case measure => simp [intOf]; omega
    case rel => first | exact ⟨q + 1, by go_num, by omega, HALL2, ⟨M14.out⟩⟩ | ((repeat apply Exists.intro); exact ⟨⟨q + 1, by go_num, by omega, HALL2, ⟨M14.out⟩⟩, rfl⟩)
  have hle : ¬ (q : Int) < (f.caps.length : Int) := by omega
  obtain rfl : q = f.caps.length := by omega
  have Ha := Aside0.mk (el_all zCap HALL.out); clear HALL hlt hle hq
  go_upto_region 9 with fail
  clear z_f
  go_loopw [4] (fun v wx => ∃ q : Nat, v = .int .i64 q ∧ q ≤ f.code.length ∧ Aside0 (∀ i, i < q → insB (el zIns f.code i) = true) ∧ Aside0 (Mem w wx [Hold.box w.heap.size #[.int .i64 f.params, .int .i64 f.regs, .slice A2 f.caps.length c2, .slice A3 f.code.length c3, .slice A4 f.handlers.length c4] 73])) (fun v _ => f.code.length - (intOf v).toNat)
  case atStart => exact ⟨0, rfl, by omega, ⟨fun i hi => absurd hi (by omega)⟩, Ma⟩
  case round =>
  clear Ma
  obtain ⟨q, rfl, hq, HALL, Mb⟩ := hrel
  have z_f := Mb.out.box (.head _)
  by_cases hlt : q < f.code.length
  · have hle : (q : Int) < (f.code.length : Int) := by omega
    have hq0 : (0 : Int) ≤ (q : Int) := by omega
    obtain ⟨a_, ha_, hK_, k0, k1, k2⟩ := Ins_at G3.out q hlt
    cases ha_
    obtain ⟨y, hye⟩ : ∃ y, y = el zIns f.code q := ⟨_, rfl⟩
    rw [← hye] at k0 k1 k2
    have HYE := Aside0.mk hye; clear hye hK_
    have y0 := pw_cell_below Mb.out.below k0; clear k0
    have y1 := pw_cell_below Mb.out.below k1; clear k1
    have y2 := pw_cell_below Mb.out.below k2; clear k2
    obtain ⟨b_, hb_⟩ : ∃ b : Nat, b = wr.heap.size := ⟨_, rfl⟩
    have M15 := Aside0.mk (Mb.out.allocAt hb_ #[.int .i64 y.op, .int .i64 y.a, .int .i64 y.b] 76)
    go_upto_region 12 with fail
    rw [← hb_]
    clear z_f Mb y0 y1 y2
    generalize hwa : wr.alloc (.cells #[.int .i64 y.op, .int .i64 y.a, .int .i64 y.b] 76) = wa at M15 ⊢
    clear hwa hb_
    have z_f := M15.out.box (.tail _ (.head _)); have z_c := M15.out.box (.head _)
    go_wp2_with fail
    refine (spec_l01In.calls _ _ _ _ _ (Img.spec_in y.op 1 19)).mono ?_; rintro e ww16 ⟨rfl, ⟨⟨nn16, rfl⟩⟩⟩
    have M16 := Aside0.mk (M15.out.draw nn16); clear M15 z_f z_c
    generalize World.drewN _ nn16 = W16 at M16 ⊢
    have z_f := M16.out.box (.tail _ (.head _))
    have z_c := M16.out.box (.head _)
    rcases Bool.eq_false_or_eq_true (Img.inB y.op 1 19) with hd | hd
    rotate_left
    · rw [hd]
      have hn_ := el_not (p := insB) zIns hlt (by rw [← HYE.out]; unfold insB; rw [hd]; first | done | simp)
      have HE := Aside0.mk (show funcB f = false by unfold funcB; rw [hn_]; simp)
      go_wp2
      go_ret
      exact ⟨by rw [HE.out]; rfl, M16.out.below⟩
    rw [hd]; have E0 := Aside0.mk hd; clear hd
    go_wp2_with fail
    refine (spec_l01In.calls _ _ _ _ _ (Img.spec_in y.a 0 300)).mono ?_; rintro e ww17 ⟨rfl, ⟨⟨nn17, rfl⟩⟩⟩
    have M17 := Aside0.mk (M16.out.draw nn17); clear M16 z_f z_c
    generalize World.drewN _ nn17 = W17 at M17 ⊢
    have z_f := M17.out.box (.tail _ (.head _))
    have z_c := M17.out.box (.head _)
    rcases Bool.eq_false_or_eq_true (Img.inB y.a 0 300) with hd | hd
    rotate_left
    · rw [hd]
      have hn_ := el_not (p := insB) zIns hlt (by rw [← HYE.out]; unfold insB; rw [hd]; first | done | simp)
      have HE := Aside0.mk (show funcB f = false by unfold funcB; rw [hn_]; simp)
      go_wp2
      go_ret
      exact ⟨by rw [HE.out]; rfl, M17.out.below⟩
    rw [hd]; have E1 := Aside0.mk hd; clear hd
    go_wp2_with fail
    refine (spec_l01In.calls _ _ _ _ _ (Img.spec_in y.b 0 300)).mono ?_; rintro e ww18 ⟨rfl, ⟨⟨nn18, rfl⟩⟩⟩
    have M18 := Aside0.mk (M17.out.draw nn18); clear M17 z_f z_c
    generalize World.drewN _ nn18 = W18 at M18 ⊢
    have z_f := M18.out.box (.tail _ (.head _))
    have z_c := M18.out.box (.head _)
    rcases Bool.eq_false_or_eq_true (Img.inB y.b 0 300) with hd | hd
    rotate_left
    · rw [hd]
      have hn_ := el_not (p := insB) zIns hlt (by rw [← HYE.out]; unfold insB; rw [hd]; first | done | simp)
      have HE := Aside0.mk (show funcB f = false by unfold funcB; rw [hn_]; simp)
      go_wp2
      go_ret
      exact ⟨by rw [HE.out]; rfl, M18.out.below⟩
    rw [hd]; have E2 := Aside0.mk hd; clear hd
    have HALL2 := Aside0.mk (show ∀ i, i < q + 1 → insB (el zIns f.code i) = true from fun i hi => by
      rcases Nat.lt_succ_iff_lt_or_eq.1 hi with h | h
      · exact HALL.out i h
      · rw [h, ← HYE.out]; unfold insB; rw [E0.out, E1.out, E2.out]; first | done | rfl)
    go_wp2
    go_roundw
    case measure => simp [intOf]; omega
    case rel => first | exact ⟨q + 1, by go_num, by omega, HALL2, ⟨M18.out.drop⟩⟩ | ((repeat apply Exists.intro); exact ⟨⟨q + 1, by go_num, by omega, HALL2, ⟨M18.out.drop⟩⟩, rfl⟩)
  have hle : ¬ (q : Int) < (f.code.length : Int) := by omega
  obtain rfl : q = f.code.length := by omega
  have Hb := Aside0.mk (el_all zIns HALL.out); clear HALL hlt hle hq
  go_upto_region 15 with fail
  clear z_f
  go_loopw [6] (fun v wx => ∃ q : Nat, v = .int .i64 q ∧ q ≤ f.handlers.length ∧ Aside0 (∀ i, i < q → hdB (el zHandler f.handlers i) = true) ∧ Aside0 (Mem w wx [Hold.box w.heap.size #[.int .i64 f.params, .int .i64 f.regs, .slice A2 f.caps.length c2, .slice A3 f.code.length c3, .slice A4 f.handlers.length c4] 73])) (fun v _ => f.handlers.length - (intOf v).toNat)
  case atStart => exact ⟨0, rfl, by omega, ⟨fun i hi => absurd hi (by omega)⟩, Mb⟩
  case round =>
  clear Mb
  obtain ⟨q, rfl, hq, HALL, Mc⟩ := hrel
  have z_f := Mc.out.box (.head _)
  by_cases hlt : q < f.handlers.length
  · have hle : (q : Int) < (f.handlers.length : Int) := by omega
    have hq0 : (0 : Int) ≤ (q : Int) := by omega
    obtain ⟨a_, ha_, hK_, k0, k1, k2⟩ := Handler_at G4.out q hlt
    cases ha_
    obtain ⟨y, hye⟩ : ∃ y, y = el zHandler f.handlers q := ⟨_, rfl⟩
    rw [← hye] at k0 k1 k2
    have HYE := Aside0.mk hye; clear hye hK_
    have y0 := pw_cell_below Mc.out.below k0; clear k0
    have y1 := pw_cell_below Mc.out.below k1; clear k1
    have y2 := pw_cell_below Mc.out.below k2; clear k2
    obtain ⟨b_, hb_⟩ : ∃ b : Nat, b = wr.heap.size := ⟨_, rfl⟩
    have M19 := Aside0.mk (Mc.out.allocAt hb_ #[.int .i64 y.from_, .int .i64 y.to_, .int .i64 y.target] 107)
    go_upto_region 18 with fail
    rw [← hb_]
    clear z_f Mc y0 y1 y2
    generalize hwa : wr.alloc (.cells #[.int .i64 y.from_, .int .i64 y.to_, .int .i64 y.target] 107) = wa at M19 ⊢
    clear hwa hb_
    have z_f := M19.out.box (.tail _ (.head _)); have z_c := M19.out.box (.head _)
    go_wp2_with fail
    refine (spec_l01In.calls _ _ _ _ _ (Img.spec_in y.from_ 0 300)).mono ?_; rintro e ww20 ⟨rfl, ⟨⟨nn20, rfl⟩⟩⟩
    have M20 := Aside0.mk (M19.out.draw nn20); clear M19 z_f z_c
    generalize World.drewN _ nn20 = W20 at M20 ⊢
    have z_f := M20.out.box (.tail _ (.head _))
    have z_c := M20.out.box (.head _)
    rcases Bool.eq_false_or_eq_true (Img.inB y.from_ 0 300) with hd | hd
    rotate_left
    · rw [hd]
      have hn_ := el_not (p := hdB) zHandler hlt (by rw [← HYE.out]; unfold hdB; rw [hd]; first | done | simp)
      have HE := Aside0.mk (show funcB f = false by unfold funcB; rw [hn_]; simp)
      go_wp2
      go_ret
      exact ⟨by rw [HE.out]; rfl, M20.out.below⟩
    rw [hd]; have E0 := Aside0.mk hd; clear hd
    go_wp2_with fail
    refine (spec_l01In.calls _ _ _ _ _ (Img.spec_in y.to_ 0 300)).mono ?_; rintro e ww21 ⟨rfl, ⟨⟨nn21, rfl⟩⟩⟩
    have M21 := Aside0.mk (M20.out.draw nn21); clear M20 z_f z_c
    generalize World.drewN _ nn21 = W21 at M21 ⊢
    have z_f := M21.out.box (.tail _ (.head _))
    have z_c := M21.out.box (.head _)
    rcases Bool.eq_false_or_eq_true (Img.inB y.to_ 0 300) with hd | hd
    rotate_left
    · rw [hd]
      have hn_ := el_not (p := hdB) zHandler hlt (by rw [← HYE.out]; unfold hdB; rw [hd]; first | done | simp)
      have HE := Aside0.mk (show funcB f = false by unfold funcB; rw [hn_]; simp)
      go_wp2
      go_ret
      exact ⟨by rw [HE.out]; rfl, M21.out.below⟩
    rw [hd]; have E1 := Aside0.mk hd; clear hd
    go_wp2_with fail
    refine (spec_l01In.calls _ _ _ _ _ (Img.spec_in y.target 0 300)).mono ?_; rintro e ww22 ⟨rfl, ⟨⟨nn22, rfl⟩⟩⟩
    have M22 := Aside0.mk (M21.out.draw nn22); clear M21 z_f z_c
    generalize World.drewN _ nn22 = W22 at M22 ⊢
    have z_f := M22.out.box (.tail _ (.head _))
    have z_c := M22.out.box (.head _)
    rcases Bool.eq_false_or_eq_true (Img.inB y.target 0 300) with hd | hd
    rotate_left
    · rw [hd]
      have hn_ := el_not (p := hdB) zHandler hlt (by rw [← HYE.out]; unfold hdB; rw [hd]; first | done | simp)
      have HE := Aside0.mk (show funcB f = false by unfold funcB; rw [hn_]; simp)
      go_wp2
      go_ret
      exact ⟨by rw [HE.out]; rfl, M22.out.below⟩
    rw [hd]; have E2 := Aside0.mk hd; clear hd
    have HALL2 := Aside0.mk (show ∀ i, i < q + 1 → hdB (el zHandler f.handlers i) = true from fun i hi => by
      rcases Nat.lt_succ_iff_lt_or_eq.1 hi with h | h
      · exact HALL.out i h
      · rw [h, ← HYE.out]; unfold hdB; rw [E0.out, E1.out, E2.out]; first | done | rfl)
    go_wp2
    go_roundw
    case measure => simp [intOf]; omega
    case rel => first | exact ⟨q + 1, by go_num, by omega, HALL2, ⟨M22.out.drop⟩⟩ | ((repeat apply Exists.intro); exact ⟨⟨q + 1, by go_num, by omega, HALL2, ⟨M22.out.drop⟩⟩, rfl⟩)
  have hle : ¬ (q : Int) < (f.handlers.length : Int) := by omega
  obtain rfl : q = f.handlers.length := by omega
  have Hc := Aside0.mk (el_all zHandler HALL.out); clear HALL hlt hle hq
  have HE := Aside0.mk (show funcB f = true by unfold funcB; rw [H1.out, H2.out, H3.out, H4.out, H5.out, Ha.out, Hb.out, Hc.out]; rfl)
  go_wp2
  go_ret
  exact ⟨by rw [HE.out]; rfl, Mc.out.below⟩
set_option maxHeartbeats 8000000 in
set_option maxRecDepth 100000 in
theorem cFuncOkI (f : Func) (cs : List Value) (w : World) (hk : kFuncI.K w f cs) :
    Calls Try.prog 100 #[.agg ⟨cs⟩] w fun e w' => e = .returned (.bool (funcB f)) ∧ Below w.heap.size w w' := by
  obtain ⟨A2, c2, A3, c3, A4, c4, rfl, l2, g2, l3, g3, l4, g4⟩ := kFuncI_open hk
  have hu := Try.underlying73; have hu1 := Try.underlying76; have hu2 := Try.underlying107; have hu3 := Try.underlying105; have hu4 := Try.underlying70; have hu5 := Try.underlying71; have hu6 := Try.underlying69
  have G2 := Aside0.mk g2; have G3 := Aside0.mk g3; have G4 := Aside0.mk g4
  clear hk g2 g3 g4 l2 l3 l4
  have M0 := Aside0.mk ((Mem.start w).allocAt rfl #[.int .i64 f.params, .int .i64 f.regs, .slice A2 f.caps.length c2, .slice A3 f.code.length c3, .slice A4 f.handlers.length c4] 73)
  have z_f := M0.out.box (.head _)
  go_enter Try.func100, Try.ntmps100
  go_wp2_with fail
  refine (impl_within.calls _ _ _ _ _ (Img.impl_in f.params 0 4)).mono ?_; rintro e ww23 ⟨rfl, ⟨⟨nn23, rfl⟩⟩⟩
  have M23 := Aside0.mk (M0.out.draw nn23); clear M0 z_f
  generalize World.drewN _ nn23 = W23 at M23 ⊢
  have z_f := M23.out.box (.head _)
  rcases Bool.eq_false_or_eq_true (Img.inB f.params 0 4) with hd | hd
  rotate_left
  · rw [hd]
    have HE := Aside0.mk (show funcB f = false by unfold funcB; rw [hd]; simp)
    go_wp2
    go_ret
    exact ⟨by rw [HE.out]; rfl, M23.out.below⟩
  rw [hd]; have H1 := Aside0.mk hd; clear hd
  go_wp2_with fail
  refine (impl_within.calls _ _ _ _ _ (Img.impl_in f.regs f.params 40)).mono ?_; rintro e ww24 ⟨rfl, ⟨⟨nn24, rfl⟩⟩⟩
  have M24 := Aside0.mk (M23.out.draw nn24); clear M23 z_f
  generalize World.drewN _ nn24 = W24 at M24 ⊢
  have z_f := M24.out.box (.head _)
  rcases Bool.eq_false_or_eq_true (Img.inB f.regs f.params 40) with hd | hd
  rotate_left
  · rw [hd]
    have HE := Aside0.mk (show funcB f = false by unfold funcB; rw [hd]; simp)
    go_wp2
    go_ret
    exact ⟨by rw [HE.out]; rfl, M24.out.below⟩
  rw [hd]; have H2 := Aside0.mk hd; clear hd
  by_cases hd : (f.caps.length : Int) > 20
  · have hd1 : decide ((f.caps.length : Int) ≤ 20) = false := by simp; omega
    have HE := Aside0.mk (show funcB f = false by unfold funcB; rw [hd1]; simp)
    go_wp2
    go_ret
    exact ⟨by rw [HE.out]; rfl, M24.out.below⟩
  have H3 := Aside0.mk (show decide ((f.caps.length : Int) ≤ 20) = true by simp; omega)
  have hc3 := hd; clear hd
  go_wp2_with fail
  refine (impl_within.calls _ _ _ _ _ (Img.impl_in f.code.length 1 300)).mono ?_; rintro e ww25 ⟨rfl, ⟨⟨nn25, rfl⟩⟩⟩
  have M25 := Aside0.mk (M24.out.draw nn25); clear M24 z_f
  generalize World.drewN _ nn25 = W25 at M25 ⊢
  have z_f := M25.out.box (.head _)
  rcases Bool.eq_false_or_eq_true (Img.inB f.code.length 1 300) with hd | hd
  rotate_left
  · rw [hd]
    have HE := Aside0.mk (show funcB f = false by unfold funcB; rw [hd]; simp)
    go_wp2
    go_ret
    exact ⟨by rw [HE.out]; rfl, M25.out.below⟩
  rw [hd]; have H4 := Aside0.mk hd; clear hd
  by_cases hd : (f.handlers.length : Int) > 40
  · have hd1 : decide ((f.handlers.length : Int) ≤ 40) = false := by simp; omega
    have HE := Aside0.mk (show funcB f = false by unfold funcB; rw [hd1]; simp)
    go_wp2
    go_ret
    exact ⟨by rw [HE.out]; rfl, M25.out.below⟩
  have H5 := Aside0.mk (show decide ((f.handlers.length : Int) ≤ 40) = true by simp; omega)
  have hc5 := hd; clear hd
  have hl4 : f.code.length ≤ 300 := by have := of_decide_eq_true H4.out; omega
  go_upto_region 4 with fail
  clear z_f
  go_loopw [43] (fun v wx => ∃ q : Nat, v = .int .i64 q ∧ q ≤ f.caps.length ∧ Aside0 (∀ i, i < q → capB (el zCap f.caps i) = true) ∧ Aside0 (Mem w wx [Hold.box w.heap.size #[.int .i64 f.params, .int .i64 f.regs, .slice A2 f.caps.length c2, .slice A3 f.code.length c3, .slice A4 f.handlers.length c4] 73])) (fun v _ => f.caps.length - (intOf v).toNat)
  case atStart => exact ⟨0, rfl, by omega, ⟨fun i hi => absurd hi (by omega)⟩, M25⟩
  case round =>
  clear M25
  obtain ⟨q, rfl, hq, HALL, Ma⟩ := hrel
  have z_f := Ma.out.box (.head _)
  by_cases hlt : q < f.caps.length
  · have hle : (q : Int) < (f.caps.length : Int) := by omega
    have hq0 : (0 : Int) ≤ (q : Int) := by omega
    obtain ⟨a_, ha_, hK_, k0, k1⟩ := Cap_at G2.out q hlt
    cases ha_
    obtain ⟨y, hye⟩ : ∃ y, y = el zCap f.caps q := ⟨_, rfl⟩
    rw [← hye] at k0 k1
    have HYE := Aside0.mk hye; clear hye hK_
    have y0 := pw_cell_below Ma.out.below k0; clear k0
    have y1 := pw_cell_below Ma.out.below k1; clear k1
    obtain ⟨b_, hb_⟩ : ∃ b : Nat, b = wr.heap.size := ⟨_, rfl⟩
    have M26 := Aside0.mk (Ma.out.allocAt hb_ #[.bool y.reg, .int .i64 y.index] 105)
    go_upto_region 6 with fail
    rw [← hb_]
    clear z_f Ma y0 y1
    generalize hwa : wr.alloc (.cells #[.bool y.reg, .int .i64 y.index] 105) = wa at M26 ⊢
    clear hwa hb_
    have z_f := M26.out.box (.tail _ (.head _)); have z_c := M26.out.box (.head _)
    go_wp2_with fail
    refine (impl_within.calls _ _ _ _ _ (Img.impl_in y.index 0 40)).mono ?_; rintro e ww27 ⟨rfl, ⟨⟨nn27, rfl⟩⟩⟩
    have M27 := Aside0.mk (M26.out.draw nn27); clear M26 z_f z_c
    generalize World.drewN _ nn27 = W27 at M27 ⊢
    have z_f := M27.out.box (.tail _ (.head _))
    have z_c := M27.out.box (.head _)
    rcases Bool.eq_false_or_eq_true (Img.inB y.index 0 40) with hd | hd
    rotate_left
    · rw [hd]
      have hn_ := el_not (p := capB) zCap hlt (by rw [← HYE.out]; unfold capB; rw [hd]; first | done | simp)
      have HE := Aside0.mk (show funcB f = false by unfold funcB; rw [hn_]; simp)
      go_wp2
      go_ret
      exact ⟨by rw [HE.out]; rfl, M27.out.below⟩
    rw [hd]; have E0 := Aside0.mk hd; clear hd
    have HALL2 := Aside0.mk (show ∀ i, i < q + 1 → capB (el zCap f.caps i) = true from fun i hi => by
      rcases Nat.lt_succ_iff_lt_or_eq.1 hi with h | h
      · exact HALL.out i h
      · rw [h, ← HYE.out]; unfold capB; rw [E0.out]; first | done | rfl)
    go_wp2
    go_roundw
    case measure => simp [intOf]; omega
    case rel => first | exact ⟨q + 1, by go_num, by omega, HALL2, ⟨M27.out.drop⟩⟩ | ((repeat apply Exists.intro); exact ⟨⟨q + 1, by go_num, by omega, HALL2, ⟨M27.out.drop⟩⟩, rfl⟩)
  have hle : ¬ (q : Int) < (f.caps.length : Int) := by omega
  obtain rfl : q = f.caps.length := by omega
  have Ha := Aside0.mk (el_all zCap HALL.out); clear HALL hlt hle hq
  go_upto_region 10 with fail
  clear z_f
  go_loopw [55] (fun v wx => ∃ q : Nat, v = .int .i64 q ∧ q ≤ f.code.length ∧ Aside0 (∀ i, i < q → insB (el zIns f.code i) = true) ∧ Aside0 (Mem w wx [Hold.box w.heap.size #[.int .i64 f.params, .int .i64 f.regs, .slice A2 f.caps.length c2, .slice A3 f.code.length c3, .slice A4 f.handlers.length c4] 73])) (fun v _ => f.code.length - (intOf v).toNat)
  case atStart => exact ⟨0, rfl, by omega, ⟨fun i hi => absurd hi (by omega)⟩, Ma⟩
  case round =>
  clear Ma
  obtain ⟨q, rfl, hq, HALL, Mb⟩ := hrel
  have z_f := Mb.out.box (.head _)
  by_cases hlt : q < f.code.length
  · have hle : (q : Int) < (f.code.length : Int) := by omega
    have hq0 : (0 : Int) ≤ (q : Int) := by omega
    obtain ⟨a_, ha_, hK_, k0, k1, k2⟩ := Ins_at G3.out q hlt
    cases ha_
    obtain ⟨y, hye⟩ : ∃ y, y = el zIns f.code q := ⟨_, rfl⟩
    rw [← hye] at k0 k1 k2
    have HYE := Aside0.mk hye; clear hye hK_
    have y0 := pw_cell_below Mb.out.below k0; clear k0
    have y1 := pw_cell_below Mb.out.below k1; clear k1
    have y2 := pw_cell_below Mb.out.below k2; clear k2
    obtain ⟨b_, hb_⟩ : ∃ b : Nat, b = wr.heap.size := ⟨_, rfl⟩
    have M28 := Aside0.mk (Mb.out.allocAt hb_ #[.int .i64 y.op, .int .i64 y.a, .int .i64 y.b] 76)
    go_upto_region 12 with fail
    rw [← hb_]
    clear z_f Mb y0 y1 y2
    generalize hwa : wr.alloc (.cells #[.int .i64 y.op, .int .i64 y.a, .int .i64 y.b] 76) = wa at M28 ⊢
    clear hwa hb_
    have z_f := M28.out.box (.tail _ (.head _)); have z_c := M28.out.box (.head _)
    go_wp2_with fail
    refine (impl_within.calls _ _ _ _ _ (Img.impl_in y.op 1 19)).mono ?_; rintro e ww29 ⟨rfl, ⟨⟨nn29, rfl⟩⟩⟩
    have M29 := Aside0.mk (M28.out.draw nn29); clear M28 z_f z_c
    generalize World.drewN _ nn29 = W29 at M29 ⊢
    have z_f := M29.out.box (.tail _ (.head _))
    have z_c := M29.out.box (.head _)
    rcases Bool.eq_false_or_eq_true (Img.inB y.op 1 19) with hd | hd
    rotate_left
    · rw [hd]
      have hn_ := el_not (p := insB) zIns hlt (by rw [← HYE.out]; unfold insB; rw [hd]; first | done | simp)
      have HE := Aside0.mk (show funcB f = false by unfold funcB; rw [hn_]; simp)
      go_wp2
      go_ret
      exact ⟨by rw [HE.out]; rfl, M29.out.below⟩
    rw [hd]; have E0 := Aside0.mk hd; clear hd
    go_wp2_with fail
    refine (impl_within.calls _ _ _ _ _ (Img.impl_in y.a 0 300)).mono ?_; rintro e ww30 ⟨rfl, ⟨⟨nn30, rfl⟩⟩⟩
    have M30 := Aside0.mk (M29.out.draw nn30); clear M29 z_f z_c
    generalize World.drewN _ nn30 = W30 at M30 ⊢
    have z_f := M30.out.box (.tail _ (.head _))
    have z_c := M30.out.box (.head _)
    rcases Bool.eq_false_or_eq_true (Img.inB y.a 0 300) with hd | hd
    rotate_left
    · rw [hd]
      have hn_ := el_not (p := insB) zIns hlt (by rw [← HYE.out]; unfold insB; rw [hd]; first | done | simp)
      have HE := Aside0.mk (show funcB f = false by unfold funcB; rw [hn_]; simp)
      go_wp2
      go_ret
      exact ⟨by rw [HE.out]; rfl, M30.out.below⟩
    rw [hd]; have E1 := Aside0.mk hd; clear hd
    go_wp2_with fail
    refine (impl_within.calls _ _ _ _ _ (Img.impl_in y.b 0 300)).mono ?_; rintro e ww31 ⟨rfl, ⟨⟨nn31, rfl⟩⟩⟩
    have M31 := Aside0.mk (M30.out.draw nn31); clear M30 z_f z_c
    generalize World.drewN _ nn31 = W31 at M31 ⊢
    have z_f := M31.out.box (.tail _ (.head _))
    have z_c := M31.out.box (.head _)
    rcases Bool.eq_false_or_eq_true (Img.inB y.b 0 300) with hd | hd
    rotate_left
    · rw [hd]
      have hn_ := el_not (p := insB) zIns hlt (by rw [← HYE.out]; unfold insB; rw [hd]; first | done | simp)
      have HE := Aside0.mk (show funcB f = false by unfold funcB; rw [hn_]; simp)
      go_wp2
      go_ret
      exact ⟨by rw [HE.out]; rfl, M31.out.below⟩
    rw [hd]; have E2 := Aside0.mk hd; clear hd
    have HALL2 := Aside0.mk (show ∀ i, i < q + 1 → insB (el zIns f.code i) = true from fun i hi => by
      rcases Nat.lt_succ_iff_lt_or_eq.1 hi with h | h
      · exact HALL.out i h
      · rw [h, ← HYE.out]; unfold insB; rw [E0.out, E1.out, E2.out]; first | done | rfl)
    go_wp2
    go_roundw
    case measure => simp [intOf]; omega
    case rel => first | exact ⟨q + 1, by go_num, by omega, HALL2, ⟨M31.out.drop⟩⟩ | ((repeat apply Exists.intro); exact ⟨⟨q + 1, by go_num, by omega, HALL2, ⟨M31.out.drop⟩⟩, rfl⟩)
  have hle : ¬ (q : Int) < (f.code.length : Int) := by omega
  obtain rfl : q = f.code.length := by omega
  have Hb := Aside0.mk (el_all zIns HALL.out); clear HALL hlt hle hq
  go_upto_region 16 with fail
  clear z_f
  go_loopw [79] (fun v wx => ∃ q : Nat, v = .int .i64 q ∧ q ≤ f.handlers.length ∧ Aside0 (∀ i, i < q → hdB (el zHandler f.handlers i) = true) ∧ Aside0 (Mem w wx [Hold.box w.heap.size #[.int .i64 f.params, .int .i64 f.regs, .slice A2 f.caps.length c2, .slice A3 f.code.length c3, .slice A4 f.handlers.length c4] 73])) (fun v _ => f.handlers.length - (intOf v).toNat)
  case atStart => exact ⟨0, rfl, by omega, ⟨fun i hi => absurd hi (by omega)⟩, Mb⟩
  case round =>
  clear Mb
  obtain ⟨q, rfl, hq, HALL, Mc⟩ := hrel
  have z_f := Mc.out.box (.head _)
  by_cases hlt : q < f.handlers.length
  · have hle : (q : Int) < (f.handlers.length : Int) := by omega
    have hq0 : (0 : Int) ≤ (q : Int) := by omega
    obtain ⟨a_, ha_, hK_, k0, k1, k2⟩ := Handler_at G4.out q hlt
    cases ha_
    obtain ⟨y, hye⟩ : ∃ y, y = el zHandler f.handlers q := ⟨_, rfl⟩
    rw [← hye] at k0 k1 k2
    have HYE := Aside0.mk hye; clear hye hK_
    have y0 := pw_cell_below Mc.out.below k0; clear k0
    have y1 := pw_cell_below Mc.out.below k1; clear k1
    have y2 := pw_cell_below Mc.out.below k2; clear k2
    obtain ⟨b_, hb_⟩ : ∃ b : Nat, b = wr.heap.size := ⟨_, rfl⟩
    have M32 := Aside0.mk (Mc.out.allocAt hb_ #[.int .i64 y.from_, .int .i64 y.to_, .int .i64 y.target] 107)
    go_upto_region 18 with fail
    rw [← hb_]
    clear z_f Mc y0 y1 y2
    generalize hwa : wr.alloc (.cells #[.int .i64 y.from_, .int .i64 y.to_, .int .i64 y.target] 107) = wa at M32 ⊢
    clear hwa hb_
    have z_f := M32.out.box (.tail _ (.head _)); have z_c := M32.out.box (.head _)
    go_wp2_with fail
    refine (impl_within.calls _ _ _ _ _ (Img.impl_in y.from_ 0 300)).mono ?_; rintro e ww33 ⟨rfl, ⟨⟨nn33, rfl⟩⟩⟩
    have M33 := Aside0.mk (M32.out.draw nn33); clear M32 z_f z_c
    generalize World.drewN _ nn33 = W33 at M33 ⊢
    have z_f := M33.out.box (.tail _ (.head _))
    have z_c := M33.out.box (.head _)
    rcases Bool.eq_false_or_eq_true (Img.inB y.from_ 0 300) with hd | hd
    rotate_left
    · rw [hd]
      have hn_ := el_not (p := hdB) zHandler hlt (by rw [← HYE.out]; unfold hdB; rw [hd]; first | done | simp)
      have HE := Aside0.mk (show funcB f = false by unfold funcB; rw [hn_]; simp)
      go_wp2
      go_ret
      exact ⟨by rw [HE.out]; rfl, M33.out.below⟩
    rw [hd]; have E0 := Aside0.mk hd; clear hd
    go_wp2_with fail
    refine (impl_within.calls _ _ _ _ _ (Img.impl_in y.to_ 0 300)).mono ?_; rintro e ww34 ⟨rfl, ⟨⟨nn34, rfl⟩⟩⟩
    have M34 := Aside0.mk (M33.out.draw nn34); clear M33 z_f z_c
    generalize World.drewN _ nn34 = W34 at M34 ⊢
    have z_f := M34.out.box (.tail _ (.head _))
    have z_c := M34.out.box (.head _)
    rcases Bool.eq_false_or_eq_true (Img.inB y.to_ 0 300) with hd | hd
    rotate_left
    · rw [hd]
      have hn_ := el_not (p := hdB) zHandler hlt (by rw [← HYE.out]; unfold hdB; rw [hd]; first | done | simp)
      have HE := Aside0.mk (show funcB f = false by unfold funcB; rw [hn_]; simp)
      go_wp2
      go_ret
      exact ⟨by rw [HE.out]; rfl, M34.out.below⟩
    rw [hd]; have E1 := Aside0.mk hd; clear hd
    go_wp2_with fail
    refine (impl_within.calls _ _ _ _ _ (Img.impl_in y.target 0 300)).mono ?_; rintro e ww35 ⟨rfl, ⟨⟨nn35, rfl⟩⟩⟩
    have M35 := Aside0.mk (M34.out.draw nn35); clear M34 z_f z_c
    generalize World.drewN _ nn35 = W35 at M35 ⊢
    have z_f := M35.out.box (.tail _ (.head _))
    have z_c := M35.out.box (.head _)
    rcases Bool.eq_false_or_eq_true (Img.inB y.target 0 300) with hd | hd
    rotate_left
    · rw [hd]
      have hn_ := el_not (p := hdB) zHandler hlt (by rw [← HYE.out]; unfold hdB; rw [hd]; first | done | simp)
      have HE := Aside0.mk (show funcB f = false by unfold funcB; rw [hn_]; simp)
      go_wp2
      go_ret
      exact ⟨by rw [HE.out]; rfl, M35.out.below⟩
    rw [hd]; have E2 := Aside0.mk hd; clear hd
    have HALL2 := Aside0.mk (show ∀ i, i < q + 1 → hdB (el zHandler f.handlers i) = true from fun i hi => by
      rcases Nat.lt_succ_iff_lt_or_eq.1 hi with h | h
      · exact HALL.out i h
      · rw [h, ← HYE.out]; unfold hdB; rw [E0.out, E1.out, E2.out]; first | done | rfl)
    go_wp2
    go_roundw
    case measure => simp [intOf]; omega
    case rel => first | exact ⟨q + 1, by go_num, by omega, HALL2, ⟨M35.out.drop⟩⟩ | ((repeat apply Exists.intro); exact ⟨⟨q + 1, by go_num, by omega, HALL2, ⟨M35.out.drop⟩⟩, rfl⟩)
  have hle : ¬ (q : Int) < (f.handlers.length : Int) := by omega
  obtain rfl : q = f.handlers.length := by omega
  have Hc := Aside0.mk (el_all zHandler HALL.out); clear HALL hlt hle hq
  have HE := Aside0.mk (show funcB f = true by unfold funcB; rw [H1.out, H2.out, H3.out, H4.out, H5.out, Ha.out, Hb.out, Hc.out]; rfl)
  go_wp2
  go_ret
  exact ⟨by rw [HE.out]; rfl, Mc.out.below⟩
theorem cConstOkS (y : Const) (w : World) (h0 : 0 ≤ y.num) (h1 : y.num < 18446744073709551616) : Calls Try.prog 93 #[.agg #[.int .i64 y.kind, .int .u64 y.num, .string y.text]] w fun e w' => e = .returned (.bool (constB y)) ∧ Below w.heap.size w w' :=
  spec_ConstOk.calls 100 _ _ _ _ w (Img.spec_const ⟨y.kind, y.num, y.text⟩ h0 h1 (Nat.le_refl _))
theorem cConstOkI (y : Const) (w : World) (h0 : 0 ≤ y.num) (h1 : y.num < 18446744073709551616) : Calls Try.prog 99 #[.agg #[.int .i64 y.kind, .int .u64 y.num, .string y.text]] w fun e w' => e = .returned (.bool (constB y)) ∧ Below w.heap.size w w' :=
  impl_ConstOk.calls _ _ _ _ w (Img.impl_const ⟨y.kind, y.num, y.text⟩ h0 h1)
set_option maxHeartbeats 8000000 in
set_option maxRecDepth 100000 in
theorem cImageOkS (x : Image) (A0 : Option Addr) (c0 : Nat) (A1 : Option Addr) (c1 : Nat) (w : World) (l0 : x.funcs.length ≤ c0) (g0 : kFuncI.C w A0 x.funcs.length x.funcs) (l1 : x.consts.length ≤ c1) (g1 : kConst.C w A1 x.consts.length x.consts) (hn : ∀ y ∈ x.consts, 0 ≤ y.num ∧ y.num < 18446744073709551616) :
    Calls Try.prog 52 #[.agg #[.slice A0 x.funcs.length c0, .slice A1 x.consts.length c1]] w fun e w' => e = .returned (.bool (imgB x)) ∧ Below w.heap.size w w' := by
  have hu := Try.underlying37; have hu1 := Try.underlying34; have hu2 := Try.underlying73; have hu3 := Try.underlying35; have hu4 := Try.underlying100; have hu5 := Try.underlying69
  have G0 := Aside0.mk g0; have G1 := Aside0.mk g1; have HN := Aside0.mk hn
  clear g0 g1 l0 l1 hn
  have M0 := Aside0.mk ((Mem.start w).allocAt rfl #[.slice A0 x.funcs.length c0, .slice A1 x.consts.length c1] 37)
  have z_f := M0.out.box (.head _)
  go_enter Try.func52, Try.ntmps52
  go_wp2_with fail
  refine (spec_l01In.calls _ _ _ _ _ (Img.spec_in x.funcs.length 1 16)).mono ?_; rintro e ww36 ⟨rfl, ⟨⟨nn36, rfl⟩⟩⟩
  have M36 := Aside0.mk (M0.out.draw nn36); clear M0 z_f
  generalize World.drewN _ nn36 = W36 at M36 ⊢
  have z_f := M36.out.box (.head _)
  rcases Bool.eq_false_or_eq_true (Img.inB x.funcs.length 1 16) with hd | hd
  rotate_left
  · rw [hd]
    have HE := Aside0.mk (show imgB x = false by unfold imgB; rw [hd]; simp)
    go_wp2
    go_ret
    exact ⟨by rw [HE.out]; rfl, M36.out.below⟩
  rw [hd]; have H1 := Aside0.mk hd; clear hd
  have hfl : 1 ≤ x.funcs.length ∧ x.funcs.length ≤ 16 := by have := of_decide_eq_true H1.out; omega
  by_cases hd : (x.consts.length : Int) > 40
  · have hd1 : decide ((x.consts.length : Int) ≤ 40) = false := by simp; omega
    have HE := Aside0.mk (show imgB x = false by unfold imgB; rw [hd1]; simp)
    go_wp2
    go_ret
    exact ⟨by rw [HE.out]; rfl, M36.out.below⟩
  have H2 := Aside0.mk (show decide ((x.consts.length : Int) ≤ 40) = true by simp; omega); have hc2 := hd; clear hd
  go_upto_region 4 with fail
  clear z_f
  go_loopw [3] (fun v wx => ∃ q : Nat, v = .int .i64 q ∧ q ≤ x.consts.length ∧ Aside0 (∀ i, i < q → constB (el zConst x.consts i) = true) ∧ Aside0 (Mem w wx [Hold.box w.heap.size #[.slice A0 x.funcs.length c0, .slice A1 x.consts.length c1] 37])) (fun v _ => x.consts.length - (intOf v).toNat)
  case atStart => exact ⟨0, rfl, by omega, ⟨fun i hi => absurd hi (by omega)⟩, M36⟩
  case round =>
  clear M36
  obtain ⟨q, rfl, hq, HALL, Ma⟩ := hrel
  have z_f := Ma.out.box (.head _)
  by_cases hlt : q < x.consts.length
  · have hle : (q : Int) < (x.consts.length : Int) := by omega
    have hq0 : (0 : Int) ≤ (q : Int) := by omega
    obtain ⟨a_, ha_, hK_, k0, k1, k2⟩ := Const_at G1.out q hlt
    cases ha_
    obtain ⟨y, hye⟩ : ∃ y, y = el zConst x.consts q := ⟨_, rfl⟩
    rw [← hye] at hK_ k0 k1 k2
    have HYE := Aside0.mk hye; have HKK := Aside0.mk hK_; clear hye hK_
    have j0 := pw_cell_below Ma.out.below k0; clear k0
    have j1 := pw_cell_below Ma.out.below k1; clear k1
    have j2 := pw_cell_below Ma.out.below k2; clear k2
    go_wp2_with fail
    refine (cConstOkS y _ (HN.out y (by rw [HYE.out]; exact el_mem zConst hlt)).1 (HN.out y (by rw [HYE.out]; exact el_mem zConst hlt)).2).mono ?_; rintro e w37 ⟨rfl, hb⟩
    have M37 := Aside0.mk (Ma.out.step hb); clear hb Ma
    clear z_f
    rcases Bool.eq_false_or_eq_true (constB y) with hd | hd
    rotate_left
    · rw [hd]
      have hn_ := el_not (p := constB) zConst hlt (by rw [← HYE.out]; exact hd)
      have HE := Aside0.mk (show imgB x = false by unfold imgB; rw [hn_]; simp)
      go_wp2
      go_ret
      exact ⟨by rw [HE.out]; rfl, M37.out.below⟩
    rw [hd]; have E0 := Aside0.mk hd; clear hd
    have HALL2 := Aside0.mk (show ∀ i, i < q + 1 → constB (el zConst x.consts i) = true from fun i hi => by
      rcases Nat.lt_succ_iff_lt_or_eq.1 hi with h | h
      · exact HALL.out i h
      · rw [h, ← HYE.out]; exact E0.out)
    go_wp2
    go_roundw
    case measure => simp [intOf]; omega
    case rel => first | exact ⟨q + 1, by go_num, by omega, HALL2, ⟨M37.out⟩⟩ | ((repeat apply Exists.intro); exact ⟨⟨q + 1, by go_num, by omega, HALL2, ⟨M37.out⟩⟩, rfl⟩)
  have hle : ¬ (q : Int) < (x.consts.length : Int) := by omega
  obtain rfl : q = x.consts.length := by omega
  have Ha := Aside0.mk (el_all zConst HALL.out); clear HALL hlt hle hq
  go_upto_region 9 with fail
  clear z_f
  go_loopw [4] (fun v wx => ∃ q : Nat, v = .int .i64 q ∧ q ≤ x.funcs.length ∧ Aside0 (∀ i, i < q → funcB (el zFunc x.funcs i) = true) ∧ Aside0 (Mem w wx [Hold.box w.heap.size #[.slice A0 x.funcs.length c0, .slice A1 x.consts.length c1] 37])) (fun v _ => x.funcs.length - (intOf v).toNat)
  case atStart => exact ⟨0, rfl, by omega, ⟨fun i hi => absurd hi (by omega)⟩, Ma⟩
  case round =>
  clear Ma
  obtain ⟨q, rfl, hq, HALL, Mb⟩ := hrel
  have z_f := Mb.out.box (.head _)
  by_cases hlt : q < x.funcs.length
  · have hle : (q : Int) < (x.funcs.length : Int) := by omega
    have hq0 : (0 : Int) ≤ (q : Int) := by omega
    obtain ⟨a_, B2, e2, B3, e3, B4, e4, ha_, hK_, k0, k1, k2, k3, k4⟩ := FuncI_at G0.out q hlt
    cases ha_
    obtain ⟨y, hye⟩ : ∃ y, y = el zFunc x.funcs q := ⟨_, rfl⟩
    rw [← hye] at hK_ k0 k1 k2 k3 k4
    have HYE := Aside0.mk hye; have HKK := Aside0.mk hK_; clear hye hK_
    have j0 := pw_cell_below Mb.out.below k0; clear k0
    have j1 := pw_cell_below Mb.out.below k1; clear k1
    have j2 := pw_cell_below Mb.out.below k2; clear k2
    have j3 := pw_cell_below Mb.out.below k3; clear k3
    have j4 := pw_cell_below Mb.out.below k4; clear k4
    go_wp2_with fail
    refine (cFuncOkS y _ _ (kFuncI.K_below Mb.out.below HKK.out)).mono ?_; rintro e w38 ⟨rfl, hb⟩
    have M38 := Aside0.mk (Mb.out.step hb); clear hb Mb
    clear z_f
    rcases Bool.eq_false_or_eq_true (funcB y) with hd | hd
    rotate_left
    · rw [hd]
      have hn_ := el_not (p := funcB) zFunc hlt (by rw [← HYE.out]; exact hd)
      have HE := Aside0.mk (show imgB x = false by unfold imgB; rw [hn_]; simp)
      go_wp2
      go_ret
      exact ⟨by rw [HE.out]; rfl, M38.out.below⟩
    rw [hd]; have E0 := Aside0.mk hd; clear hd
    have HALL2 := Aside0.mk (show ∀ i, i < q + 1 → funcB (el zFunc x.funcs i) = true from fun i hi => by
      rcases Nat.lt_succ_iff_lt_or_eq.1 hi with h | h
      · exact HALL.out i h
      · rw [h, ← HYE.out]; exact E0.out)
    go_wp2
    go_roundw
    case measure => simp [intOf]; omega
    case rel => first | exact ⟨q + 1, by go_num, by omega, HALL2, ⟨M38.out⟩⟩ | ((repeat apply Exists.intro); exact ⟨⟨q + 1, by go_num, by omega, HALL2, ⟨M38.out⟩⟩, rfl⟩)
  have hle : ¬ (q : Int) < (x.funcs.length : Int) := by omega
  obtain rfl : q = x.funcs.length := by omega
  have Hb := Aside0.mk (el_all zFunc HALL.out); clear HALL hlt hle hq
  obtain ⟨fa, A2, c2, A3, c3, A4, c4, hfa, hK0, k0, k1, k2, k3, k4⟩ := FuncI_at G0.out 0 hfl.1
  obtain ⟨u, hue⟩ : ∃ u, u = el zFunc x.funcs 0 := ⟨_, rfl⟩
  rw [← hue] at k0 k2
  have e0_ : fa.add (0 * 5) = fa := by simp [Addr.add]
  rw [e0_] at k0 k2
  have y0 := pw_cell_below Mb.out.below k0; have y2 := pw_cell_below Mb.out.below k2
  have HUE := Aside0.mk hue
  have hfl0 : (0 : Int) < (x.funcs.length : Int) := by omega
  clear hK0 k0 k1 k2 k3 k4 hue e0_
  cases hfa
  skip
  have hq0 := Aside0.mk hfl0
  go_upto_region 13 with fail
  skip
  by_cases hd : u.params = 0
  rotate_left
  · have hd1 : decide ((el zFunc x.funcs 0).params = 0) = false := by rw [← HUE.out]; exact decide_eq_false hd
    have hq1 : (u.params == 0) = false := by simpa using hd
    have hq2 : (u.params != 0) = true := by simpa using hd
    have HE := Aside0.mk (show imgB x = false by unfold imgB; rw [hd1]; simp)
    go_wp2
    go_ret
    exact ⟨by rw [HE.out]; rfl, Mb.out.below⟩
  have H3 := Aside0.mk (show decide ((el zFunc x.funcs 0).params = 0) = true by rw [← HUE.out]; exact decide_eq_true hd)
  have hq1 : (u.params == 0) = true := by simpa using hd
  have hq2 : (u.params != 0) = false := by simpa using hd
  by_cases he : u.caps.length = 0
  rotate_left
  · have he1 : decide ((el zFunc x.funcs 0).caps.length = 0) = false := by rw [← HUE.out]; exact decide_eq_false he
    have hq3 : ((u.caps.length : Int) == 0) = false := beq_false_of_ne (by omega)
    have hq4 : (u.caps.length : Int) > 0 := by omega
    have HE := Aside0.mk (show imgB x = false by unfold imgB; rw [he1]; simp)
    go_wp2
    go_ret
    exact ⟨by rw [HE.out]; rfl, Mb.out.below⟩
  have H4 := Aside0.mk (show decide ((el zFunc x.funcs 0).caps.length = 0) = true by rw [← HUE.out]; exact decide_eq_true he)
  have hq3 : ((u.caps.length : Int) == 0) = true := by rw [he]; rfl
  have hq4 : ¬ (u.caps.length : Int) > 0 := by omega
  clear hd he
  have HE := Aside0.mk (show imgB x = true by unfold imgB; rw [H1.out, H2.out, Ha.out, Hb.out, H3.out, H4.out]; rfl)
  go_wp2
  go_ret
  exact ⟨by rw [HE.out]; rfl, Mb.out.below⟩
set_option maxHeartbeats 8000000 in
set_option maxRecDepth 100000 in
theorem cImageOkI (x : Image) (A0 : Option Addr) (c0 : Nat) (A1 : Option Addr) (c1 : Nat) (w : World) (l0 : x.funcs.length ≤ c0) (g0 : kFuncI.C w A0 x.funcs.length x.funcs) (l1 : x.consts.length ≤ c1) (g1 : kConst.C w A1 x.consts.length x.consts) (hn : ∀ y ∈ x.consts, 0 ≤ y.num ∧ y.num < 18446744073709551616) :
    Calls Try.prog 59 #[.agg #[.slice A0 x.funcs.length c0, .slice A1 x.consts.length c1]] w fun e w' => e = .returned (.bool (imgB x)) ∧ Below w.heap.size w w' := by
  have hu := Try.underlying37; have hu1 := Try.underlying34; have hu2 := Try.underlying73; have hu3 := Try.underlying35; have hu4 := Try.underlying100; have hu5 := Try.underlying69
  have G0 := Aside0.mk g0; have G1 := Aside0.mk g1; have HN := Aside0.mk hn
  clear g0 g1 l0 l1 hn
  have M0 := Aside0.mk ((Mem.start w).allocAt rfl #[.slice A0 x.funcs.length c0, .slice A1 x.consts.length c1] 37)
  have z_f := M0.out.box (.head _)
  go_enter Try.func59, Try.ntmps59
  go_wp2_with fail
  refine (impl_within.calls _ _ _ _ _ (Img.impl_in x.funcs.length 1 16)).mono ?_; rintro e ww39 ⟨rfl, ⟨⟨nn39, rfl⟩⟩⟩
  have M39 := Aside0.mk (M0.out.draw nn39); clear M0 z_f
  generalize World.drewN _ nn39 = W39 at M39 ⊢
  have z_f := M39.out.box (.head _)
  rcases Bool.eq_false_or_eq_true (Img.inB x.funcs.length 1 16) with hd | hd
  rotate_left
  · rw [hd]
    have HE := Aside0.mk (show imgB x = false by unfold imgB; rw [hd]; simp)
    go_wp2
    go_ret
    exact ⟨by rw [HE.out]; rfl, M39.out.below⟩
  rw [hd]; have H1 := Aside0.mk hd; clear hd
  have hfl : 1 ≤ x.funcs.length ∧ x.funcs.length ≤ 16 := by have := of_decide_eq_true H1.out; omega
  by_cases hd : (x.consts.length : Int) > 40
  · have hd1 : decide ((x.consts.length : Int) ≤ 40) = false := by simp; omega
    have HE := Aside0.mk (show imgB x = false by unfold imgB; rw [hd1]; simp)
    go_wp2
    go_ret
    exact ⟨by rw [HE.out]; rfl, M39.out.below⟩
  have H2 := Aside0.mk (show decide ((x.consts.length : Int) ≤ 40) = true by simp; omega); have hc2 := hd; clear hd
  obtain ⟨fa, A2, c2, A3, c3, A4, c4, hfa, hK0, k0, k1, k2, k3, k4⟩ := FuncI_at G0.out 0 hfl.1
  obtain ⟨u, hue⟩ : ∃ u, u = el zFunc x.funcs 0 := ⟨_, rfl⟩
  rw [← hue] at k0 k2
  have e0_ : fa.add (0 * 5) = fa := by simp [Addr.add]
  rw [e0_] at k0 k2
  have y0 := pw_cell_below M39.out.below k0; have y2 := pw_cell_below M39.out.below k2
  have HUE := Aside0.mk hue
  have hfl0 : (0 : Int) < (x.funcs.length : Int) := by omega
  clear hK0 k0 k1 k2 k3 k4 hue e0_
  cases hfa
  by_cases hd : u.params = 0
  rotate_left
  · have hd1 : decide ((el zFunc x.funcs 0).params = 0) = false := by rw [← HUE.out]; exact decide_eq_false hd
    have hq1 : (u.params == 0) = false := by simpa using hd
    have hq2 : (u.params != 0) = true := by simpa using hd
    have HE := Aside0.mk (show imgB x = false by unfold imgB; rw [hd1]; simp)
    go_wp2
    go_ret
    exact ⟨by rw [HE.out]; rfl, M39.out.below⟩
  have H3 := Aside0.mk (show decide ((el zFunc x.funcs 0).params = 0) = true by rw [← HUE.out]; exact decide_eq_true hd)
  have hq1 : (u.params == 0) = true := by simpa using hd
  have hq2 : (u.params != 0) = false := by simpa using hd
  by_cases he : u.caps.length = 0
  rotate_left
  · have he1 : decide ((el zFunc x.funcs 0).caps.length = 0) = false := by rw [← HUE.out]; exact decide_eq_false he
    have hq3 : ((u.caps.length : Int) == 0) = false := beq_false_of_ne (by omega)
    have hq4 : (u.caps.length : Int) > 0 := by omega
    have HE := Aside0.mk (show imgB x = false by unfold imgB; rw [he1]; simp)
    go_wp2
    go_ret
    exact ⟨by rw [HE.out]; rfl, M39.out.below⟩
  have H4 := Aside0.mk (show decide ((el zFunc x.funcs 0).caps.length = 0) = true by rw [← HUE.out]; exact decide_eq_true he)
  have hq3 : ((u.caps.length : Int) == 0) = true := by rw [he]; rfl
  have hq4 : ¬ (u.caps.length : Int) > 0 := by omega
  clear hd he
  go_upto_region 4 with fail
  simp only [show decide (0 < u.caps.length) = false from decide_eq_false (by omega), show decide ((40 : Int) < (x.consts.length : Int)) = false from decide_eq_false (by omega), Bool.or_false]
  clear z_f hq1 hq2 hq3 hq4 y0 y2 hc2 hfl0
  go_loopw [38] (fun v wx => ∃ q : Nat, v = .int .i64 q ∧ q ≤ x.consts.length ∧ Aside0 (∀ i, i < q → constB (el zConst x.consts i) = true) ∧ Aside0 (Mem w wx [Hold.box w.heap.size #[.slice (some fa) x.funcs.length c0, .slice A1 x.consts.length c1] 37])) (fun v _ => x.consts.length - (intOf v).toNat)
  case atStart => exact ⟨0, rfl, by omega, ⟨fun i hi => absurd hi (by omega)⟩, M39⟩
  case round =>
  clear M39
  obtain ⟨q, rfl, hq, HALL, Ma⟩ := hrel
  have z_f := Ma.out.box (.head _)
  by_cases hlt : q < x.consts.length
  · have hle : (q : Int) < (x.consts.length : Int) := by omega
    have hq0 : (0 : Int) ≤ (q : Int) := by omega
    obtain ⟨a_, ha_, hK_, k0, k1, k2⟩ := Const_at G1.out q hlt
    cases ha_
    obtain ⟨y, hye⟩ : ∃ y, y = el zConst x.consts q := ⟨_, rfl⟩
    rw [← hye] at hK_ k0 k1 k2
    have HYE := Aside0.mk hye; have HKK := Aside0.mk hK_; clear hye hK_
    have j0 := pw_cell_below Ma.out.below k0; clear k0
    have j1 := pw_cell_below Ma.out.below k1; clear k1
    have j2 := pw_cell_below Ma.out.below k2; clear k2
    obtain ⟨b_, hb_⟩ : ∃ b : Nat, b = wr.heap.size := ⟨_, rfl⟩
    have M40 := Aside0.mk (Ma.out.allocAt hb_ #[.int .i64 y.kind, .int .u64 y.num, .string y.text] 100)
    go_upto_region 6 with fail
    rw [← hb_]
    clear z_f Ma j0 j1 j2
    generalize hwa : wr.alloc (.cells #[.int .i64 y.kind, .int .u64 y.num, .string y.text] 100) = wa at M40 ⊢
    clear hwa hb_
    have z_c := M40.out.box (.head _)
    go_wp2_with fail
    refine (cConstOkI y _ (HN.out y (by rw [HYE.out]; exact el_mem zConst hlt)).1 (HN.out y (by rw [HYE.out]; exact el_mem zConst hlt)).2).mono ?_; rintro e w41 ⟨rfl, hb⟩
    have M41 := Aside0.mk (M40.out.step hb); clear hb M40
    clear z_c
    rcases Bool.eq_false_or_eq_true (constB y) with hd | hd
    rotate_left
    · rw [hd]
      have hn_ := el_not (p := constB) zConst hlt (by rw [← HYE.out]; exact hd)
      have HE := Aside0.mk (show imgB x = false by unfold imgB; rw [hn_]; simp)
      go_wp2
      go_ret
      exact ⟨by rw [HE.out]; rfl, M41.out.below⟩
    rw [hd]; have E0 := Aside0.mk hd; clear hd
    have HALL2 := Aside0.mk (show ∀ i, i < q + 1 → constB (el zConst x.consts i) = true from fun i hi => by
      rcases Nat.lt_succ_iff_lt_or_eq.1 hi with h | h
      · exact HALL.out i h
      · rw [h, ← HYE.out]; exact E0.out)
    go_wp2
    go_roundw
    case measure => simp [intOf]; omega
    case rel => first | exact ⟨q + 1, by go_num, by omega, HALL2, ⟨M41.out.drop⟩⟩ | ((repeat apply Exists.intro); exact ⟨⟨q + 1, by go_num, by omega, HALL2, ⟨M41.out.drop⟩⟩, rfl⟩)
  have hle : ¬ (q : Int) < (x.consts.length : Int) := by omega
  obtain rfl : q = x.consts.length := by omega
  have Ha := Aside0.mk (el_all zConst HALL.out); clear HALL hlt hle hq
  go_upto_region 10 with fail
  clear z_f
  go_loopw [49] (fun v wx => ∃ q : Nat, v = .int .i64 q ∧ q ≤ x.funcs.length ∧ Aside0 (∀ i, i < q → funcB (el zFunc x.funcs i) = true) ∧ Aside0 (Mem w wx [Hold.box w.heap.size #[.slice (some fa) x.funcs.length c0, .slice A1 x.consts.length c1] 37])) (fun v _ => x.funcs.length - (intOf v).toNat)
  case atStart => exact ⟨0, rfl, by omega, ⟨fun i hi => absurd hi (by omega)⟩, Ma⟩
  case round =>
  clear Ma
  obtain ⟨q, rfl, hq, HALL, Mb⟩ := hrel
  have z_f := Mb.out.box (.head _)
  by_cases hlt : q < x.funcs.length
  · have hle : (q : Int) < (x.funcs.length : Int) := by omega
    have hq0 : (0 : Int) ≤ (q : Int) := by omega
    obtain ⟨a_, B2, e2, B3, e3, B4, e4, ha_, hK_, k0, k1, k2, k3, k4⟩ := FuncI_at G0.out q hlt
    cases ha_
    obtain ⟨y, hye⟩ : ∃ y, y = el zFunc x.funcs q := ⟨_, rfl⟩
    rw [← hye] at hK_ k0 k1 k2 k3 k4
    have HYE := Aside0.mk hye; have HKK := Aside0.mk hK_; clear hye hK_
    have j0 := pw_cell_below Mb.out.below k0; clear k0
    have j1 := pw_cell_below Mb.out.below k1; clear k1
    have j2 := pw_cell_below Mb.out.below k2; clear k2
    have j3 := pw_cell_below Mb.out.below k3; clear k3
    have j4 := pw_cell_below Mb.out.below k4; clear k4
    obtain ⟨b_, hb_⟩ : ∃ b : Nat, b = wr.heap.size := ⟨_, rfl⟩
    have M42 := Aside0.mk (Mb.out.allocAt hb_ #[.int .i64 y.params, .int .i64 y.regs, .slice B2 y.caps.length e2, .slice B3 y.code.length e3, .slice B4 y.handlers.length e4] 73)
    go_upto_region 12 with fail
    rw [← hb_]
    clear z_f Mb j0 j1 j2 j3 j4
    generalize hwa : wr.alloc (.cells #[.int .i64 y.params, .int .i64 y.regs, .slice B2 y.caps.length e2, .slice B3 y.code.length e3, .slice B4 y.handlers.length e4] 73) = wa at M42 ⊢
    clear hwa hb_
    have z_c := M42.out.box (.head _)
    go_wp2_with fail
    refine (cFuncOkI y _ _ (kFuncI.K_below M42.out.below HKK.out)).mono ?_; rintro e w43 ⟨rfl, hb⟩
    have M43 := Aside0.mk (M42.out.step hb); clear hb M42
    clear z_c
    rcases Bool.eq_false_or_eq_true (funcB y) with hd | hd
    rotate_left
    · rw [hd]
      have hn_ := el_not (p := funcB) zFunc hlt (by rw [← HYE.out]; exact hd)
      have HE := Aside0.mk (show imgB x = false by unfold imgB; rw [hn_]; simp)
      go_wp2
      go_ret
      exact ⟨by rw [HE.out]; rfl, M43.out.below⟩
    rw [hd]; have E0 := Aside0.mk hd; clear hd
    have HALL2 := Aside0.mk (show ∀ i, i < q + 1 → funcB (el zFunc x.funcs i) = true from fun i hi => by
      rcases Nat.lt_succ_iff_lt_or_eq.1 hi with h | h
      · exact HALL.out i h
      · rw [h, ← HYE.out]; exact E0.out)
    go_wp2
    go_roundw
    case measure => simp [intOf]; omega
    case rel => first | exact ⟨q + 1, by go_num, by omega, HALL2, ⟨M43.out.drop⟩⟩ | ((repeat apply Exists.intro); exact ⟨⟨q + 1, by go_num, by omega, HALL2, ⟨M43.out.drop⟩⟩, rfl⟩)
  have hle : ¬ (q : Int) < (x.funcs.length : Int) := by omega
  obtain rfl : q = x.funcs.length := by omega
  have Hb := Aside0.mk (el_all zFunc HALL.out); clear HALL hlt hle hq
  have HE := Aside0.mk (show imgB x = true by unfold imgB; rw [H1.out, H2.out, Ha.out, Hb.out, H3.out, H4.out]; rfl)
  go_wp2
  go_ret
  exact ⟨by rw [HE.out]; rfl, Mb.out.below⟩
/-- What a right image's functions are. -/
theorem img_len {x : Image} (h : imgB x = true) : 1 ≤ x.funcs.length ∧ x.funcs.length ≤ 16 ∧ x.consts.length ≤ 40 := by
  unfold imgB Img.inB at h
  simp only [Bool.and_eq_true, decide_eq_true_eq] at h
  omega
theorem img_func {x : Image} (h : imgB x = true) {f : Func} (hf : f ∈ x.funcs) : funcB f = true := by
  unfold imgB at h
  simp only [Bool.and_eq_true, List.all_eq_true] at h
  exact h.2.2.2.1 _ hf
end Go.Proofs.Ytcbaokflimdjnaa
end
section
namespace Go.Proofs.Ytcbaokflimdjnaa.Flow
open Go.Proofs.Ytcbaokflimdjnaa Go.Proofs.Ytcbaokflimdjnaa.PureJoin
set_option linter.unusedVariables false
set_option linter.unusedSimpArgs false
/-- A register holds what is wanted. -/
def regIs (s : State) (r v : Int) : Bool := decide (0 ≤ r ∧ r ≤ (s.regs.length : Int) - 1) && (el 0 s.regs r.toNat == v)
def room (s : State) (r : Int) : Bool := decide (0 ≤ r ∧ r ≤ (s.regs.length : Int) - 1)
def capB (f : Func) (s : State) (c : Cap) : Bool := if c.reg = true then regIs s c.index 2 else decide (c.index < (f.caps.length : Int))
def capsTo (f : Func) (s : State) (cs : List Cap) : Nat → Bool
  | 0 => true
  | j + 1 => capsTo f s cs j && capB f s (el zCap cs j)
def argsTo (s : State) (a : Int) : Nat → Bool
  | 0 => true
  | j + 1 => argsTo s a j && regIs s (a + j) 1
def mayB (x : Image) (f : Func) (i : Ins) (s : State) : Bool :=
  if i.op = 1 then decide (i.a < (x.consts.length : Int))
  else if i.op = 2 then regIs s i.a 1
  else if i.op = 3 then room s i.a && (s.acc == 1)
  else if i.op = 4 then room s i.a && (s.acc == 1)
  else if i.op = 5 then regIs s i.a 2
  else if i.op = 6 then regIs s i.a 2 && (s.acc == 1)
  else if i.op = 7 then decide (i.a < (f.caps.length : Int))
  else if i.op = 8 then decide (i.a < (f.caps.length : Int)) && (s.acc == 1)
  else if i.op = 9 then (decide (1 ≤ i.a ∧ i.a ≤ 11) && regIs s i.b 1) && (s.acc == 1)
  else if i.op = 12 then decide (i.a < (f.code.length : Int))
  else if i.op = 13 then decide (i.a < (f.code.length : Int)) && (s.acc == 1)
  else if i.op = 14 then decide (i.a < (f.code.length : Int)) && (s.acc == 1)
  else if i.op = 15 then decide (1 ≤ i.a ∧ i.a ≤ (x.funcs.length : Int) - 1) && capsTo f s (el zFunc x.funcs i.a.toNat).caps (el zFunc x.funcs i.a.toNat).caps.length
  else if i.op = 16 then argsTo s i.a (i.b.toNat + 1)
  else s.acc == 1
def givesB (op : Int) : Bool := decide (op = 1 ∨ op = 2 ∨ op = 5 ∨ op = 7 ∨ op = 9 ∨ op = 10 ∨ op = 11 ∨ op = 15 ∨ op = 16)
def afterS (i : Ins) (s : State) : State :=
  if givesB i.op = true then ⟨1, s.regs⟩
  else if i.op = 3 then ⟨s.acc, s.regs.set i.a.toNat 1⟩
  else if i.op = 4 then ⟨s.acc, s.regs.set i.a.toNat 2⟩
  else s
structure Fl where
  list : List State
  reached : List Bool
  queue : List Int
  k : Nat
  bad : Bool
/-- A state comes to a place. -/
def come (r : Fl) (p : Nat) (s : State) : Fl :=
  if r.list.length ≤ p then { r with bad := true }
  else if el false r.reached p = true then
    if joinS (el zState r.list p) s = el zState r.list p then r
    else { r with list := r.list.set p (joinS (el zState r.list p) s), reached := r.reached.set p true, queue := r.queue ++ [(p : Int)] }
  else { r with list := r.list.set p s, reached := r.reached.set p true, queue := r.queue ++ [(p : Int)] }
def handsTo (hs : List Handler) (p : Int) (s : State) (r : Fl) : Nat → Fl
  | 0 => r
  | j + 1 => if (el zHandler hs j).from_ ≤ p ∧ p < (el zHandler hs j).to_ then come (handsTo hs p s r j) (el zHandler hs j).target.toNat ⟨1, s.regs⟩ else handsTo hs p s r j
def isJump (op : Int) : Bool := decide (op = 12 ∨ op = 13 ∨ op = 14)
def isEnd (op : Int) : Bool := decide (op = 12 ∨ op = 17 ∨ op = 18)
def jump (r : Fl) (i : Ins) (n : State) : Fl := if isJump i.op = true then come r i.a.toNat n else r
def next (r : Fl) (i : Ins) (p : Nat) (n : State) : Fl := if isEnd i.op = true then r else come r (p + 1) n
def step (x : Image) (f : Func) (r : Fl) : Fl :=
  let p := (el 0 r.queue r.k).toNat
  let s := el zState r.list p
  let i := el zIns f.code p
  let r1 := handsTo f.handlers (p : Int) s { r with k := r.k + 1 } f.handlers.length
  if mayB x f i s = true then next (jump r1 i (afterS i s)) i p (afterS i s) else { r1 with bad := true }
def done (r : Fl) : Prop := r.bad = true ∨ r.queue.length ≤ r.k
instance (r : Fl) : Decidable (done r) := by unfold done; infer_instance
def it (x : Image) (f : Func) (r : Fl) : Nat → Fl
  | 0 => r
  | n + 1 => if done (it x f r n) then it x f r n else step x f (it x f r n)
def begin (f : Func) : State := ⟨0, List.replicate f.params.toNat 1 ++ List.replicate (f.regs.toNat - f.params.toNat) 0⟩
def blank (f : Func) : Fl := ⟨List.replicate f.code.length zState, List.replicate f.code.length false, [], 0, false⟩
def start (f : Func) : Fl := come (blank f) 0 (begin f)
def nz (l : List Int) : Nat := l.countP (fun v => v != 0)
def cnt (s : State) : Nat := 1 + (if s.acc = 0 then 0 else 1) + nz s.regs
def wt (R : Nat) (x : State × Bool) : Nat := if x.2 = true then cnt x.1 else R + 3
def pot (R : Nat) (r : Fl) : Nat := ((r.list.zip r.reached).map (wt R)).sum
theorem sum_set {α : Type} (g : α → Nat) (l : List α) (j : Nat) (y : α) (h : j < l.length) : ((l.set j y).map g).sum + g l[j] = (l.map g).sum + g y := by
  induction l generalizing j with
  | nil => simp at h
  | cons a l ih =>
    cases j with
    | zero => simp; omega
    | succ j =>
      have := ih j (by simpa using h)
      simp only [List.set_cons_succ, List.map_cons, List.sum_cons, List.getElem_cons_succ]
      omega
theorem zip_set {α β : Type} (l : List α) (m : List β) (j : Nat) (x : α) (y : β) : (l.set j x).zip (m.set j y) = (l.zip m).set j (x, y) := by
  induction l generalizing m j with
  | nil => simp
  | cons a l ih =>
    cases m with
    | nil => simp
    | cons b m =>
      cases j with
      | zero => simp
      | succ j => simp [ih]
theorem nz_le (l : List Int) : nz l ≤ l.length := List.countP_le_length
theorem nz_drop : ∀ (l m : List Int), l.length = m.length → (∀ i : Nat, i < l.length → el 0 m i = el 0 l i ∨ el 0 m i = 0) → nz m ≤ nz l ∧ (m ≠ l → nz m < nz l) := by
  intro l
  induction l with
  | nil =>
    intro m hl _
    have : m = [] := List.eq_nil_of_length_eq_zero hl.symm
    subst this
    exact ⟨Nat.le_refl _, fun h => absurd rfl h⟩
  | cons a l ih =>
    intro m hl h
    cases m with
    | nil => simp at hl
    | cons b m =>
      have h0 := h 0 (by simp)
      have ih2 := ih m (by simpa using hl) (fun i hi => by have := h (i + 1) (by simpa using hi); simpa [el] using this)
      have e0 : b = a ∨ b = 0 := by simpa [el] using h0
      have key : nz (b :: m) = (if b = 0 then 0 else 1) + nz m ∧ nz (a :: l) = (if a = 0 then 0 else 1) + nz l := by
        constructor <;> (unfold nz; rw [List.countP_cons]; split <;> split <;> simp_all <;> omega)
      rw [key.1, key.2]
      refine ⟨?_, fun hne => ?_⟩
      · rcases e0 with rfl | rfl
        · omega
        · split <;> omega
      · rcases e0 with rfl | rfl
        · have : m ≠ l := fun e => hne (by rw [e])
          have := ih2.2 this
          omega
        · by_cases ea : a = 0
          · subst ea
            have : m ≠ l := fun e => hne (by rw [e])
            have := ih2.2 this
            omega
          · rw [if_neg ea]
            simp
            omega
theorem joined_at (l m : List Int) (i : Nat) (h : i < max l.length m.length) : el 0 (joined l m) i = alike l m i := by
  unfold el
  rw [joined_get]
  rw [joined_length]
  exact h
theorem cnt_join {a s : State} (h : s.regs.length = a.regs.length) (hne : joinS a s ≠ a) : cnt (joinS a s) < cnt a := by
  have hl : (joined a.regs s.regs).length = a.regs.length := by rw [joined_length]; omega
  have k := nz_drop a.regs (joined a.regs s.regs) hl.symm (fun i hi => by
    rw [joined_at _ _ _ (by omega)]
    unfold alike
    split
    · exact .inl rfl
    · exact .inr rfl)
  have ea : cnt (joinS a s) = 1 + (if (if a.acc = s.acc then a.acc else 0) = 0 then 0 else 1) + nz (joined a.regs s.regs) := rfl
  have eb : cnt a = 1 + (if a.acc = 0 then 0 else 1) + nz a.regs := rfl
  rw [ea, eb]
  by_cases e1 : joined a.regs s.regs = a.regs
  · by_cases e2 : (if a.acc = s.acc then a.acc else 0) = a.acc
    · exact absurd (show joinS a s = a by unfold joinS; rw [e1, e2]) hne
    · have e3 : ¬ a.acc = s.acc := fun e => e2 (by rw [if_pos e])
      have e4 : ¬ a.acc = 0 := fun e => e2 (by rw [if_neg e3, e])
      rw [if_neg e3, if_neg e4, e1]
      simp
  · have := k.2 e1
    have : (if (if a.acc = s.acc then a.acc else 0) = 0 then 0 else 1 : Nat) ≤ (if a.acc = 0 then 0 else 1) := by
      by_cases e3 : a.acc = s.acc
      · rw [if_pos e3]; exact Nat.le_refl _
      · rw [if_neg e3, if_pos rfl]; exact Nat.zero_le _
    omega
theorem cnt_le {R : Nat} {s : State} (h : s.regs.length = R) : cnt s ≤ R + 2 := by
  have := nz_le s.regs
  have : (if s.acc = 0 then 0 else 1 : Nat) ≤ 1 := by split <;> omega
  unfold cnt
  omega
theorem join_len {a s : State} (h : s.regs.length = a.regs.length) : (joinS a s).regs.length = a.regs.length := by
  show (joined a.regs s.regs).length = _
  rw [joined_length]
  omega
structure Inv (n R : Nat) (r : Fl) : Prop where
  ll : r.list.length = n
  lr : r.reached.length = n
  qs : ∀ q ∈ r.queue, 0 ≤ q ∧ q.toNat < n ∧ el false r.reached q.toNat = true
  rs : ∀ i : Nat, i < n → el false r.reached i = true → (el zState r.list i).regs.length = R
  pt : pot R r + r.queue.length ≤ (R + 3) * n
  kq : r.k ≤ r.queue.length
theorem el_set {α : Type} (z x : α) (l : List α) (i j : Nat) : el z (l.set j x) i = if i = j ∧ j < l.length then x else el z l i := by
  unfold el
  rw [List.getD_eq_getElem?_getD, List.getD_eq_getElem?_getD, List.getElem?_set]
  by_cases h : j = i
  · subst h
    by_cases h2 : j < l.length
    · rw [if_pos rfl, if_pos h2, if_pos ⟨rfl, h2⟩]; rfl
    · rw [if_pos rfl, if_neg h2, if_neg (fun k => h2 k.2), List.getElem?_eq_none (by omega)]
  · rw [if_neg h, if_neg (fun k => h k.1.symm)]
theorem pot_set {R : Nat} {r : Fl} {p : Nat} {x : State} (hl : r.list.length = r.reached.length) (hp : p < r.list.length) (q : List Int) (k : Nat) (b : Bool) :
    pot R ⟨r.list.set p x, r.reached.set p true, q, k, b⟩ + wt R (el zState r.list p, el false r.reached p) = pot R r + cnt x := by
  unfold pot
  show (((r.list.set p x).zip (r.reached.set p true)).map (wt R)).sum + _ = _
  rw [zip_set]
  have h := sum_set (wt R) (r.list.zip r.reached) p (x, true) (by rw [List.length_zip]; omega)
  rw [List.getElem_zip] at h
  rw [el_lt zState hp, el_lt false (by omega : p < r.reached.length), h]
  rfl
/-- What a state's coming changes. -/
structure Step (R : Nat) (r r2 : Fl) : Prop where
  pq : pot R r2 + r2.queue.length ≤ pot R r + r.queue.length
  kk : r2.k = r.k
  ql : r.queue.length ≤ r2.queue.length
  bd : r.bad = true → r2.bad = true
  st : ∀ i : Nat, i < r.queue.length → el 0 r2.queue i = el 0 r.queue i
theorem Step.refl (R : Nat) (r : Fl) : Step R r r := ⟨Nat.le_refl _, rfl, Nat.le_refl _, fun h => h, fun _ _ => rfl⟩
theorem Step.then_ {R : Nat} {a b c : Fl} (h : Step R a b) (g : Step R b c) : Step R a c :=
  ⟨Nat.le_trans g.pq h.pq, g.kk.trans h.kk, Nat.le_trans h.ql g.ql, fun e => g.bd (h.bd e), fun i hi => (g.st i (Nat.lt_of_lt_of_le hi h.ql)).trans (h.st i hi)⟩
theorem el_app {α : Type} (z y : α) (l : List α) (i : Nat) (h : i < l.length) : el z (l ++ [y]) i = el z l i := by
  unfold el
  rw [List.getD_eq_getElem?_getD, List.getD_eq_getElem?_getD, List.getElem?_append_left h]
theorem come_put {n R : Nat} {r : Fl} {p : Nat} {y : State} (h : Inv n R r) (hp : p < n) (hy : y.regs.length = R) (hw : cnt y + 1 ≤ wt R (el zState r.list p, el false r.reached p)) :
    Inv n R ⟨r.list.set p y, r.reached.set p true, r.queue ++ [(p : Int)], r.k, r.bad⟩ ∧ Step R r ⟨r.list.set p y, r.reached.set p true, r.queue ++ [(p : Int)], r.k, r.bad⟩ := by
  have hpot := pot_set (R := R) (r := r) (p := p) (x := y) (by rw [h.ll, h.lr]) (by rw [h.ll]; exact hp) (r.queue ++ [(p : Int)]) r.k r.bad
  have hq : (r.queue ++ [(p : Int)]).length = r.queue.length + 1 := by simp
  have hpt := h.pt
  refine ⟨⟨by simp [h.ll], by simp [h.lr], ?_, ?_, ?_, ?_⟩, ?_, rfl, ?_, fun e => e, fun i hi => el_app _ _ _ _ hi⟩
  · intro q hq
    rcases List.mem_append.1 hq with hq | hq
    · obtain ⟨h1, h2, h3⟩ := h.qs q hq
      refine ⟨h1, h2, ?_⟩
      show el false (r.reached.set p true) q.toNat = true
      rw [el_set]
      split
      · rfl
      · exact h3
    · obtain rfl : q = (p : Int) := by simpa using hq
      refine ⟨by omega, by simpa using hp, ?_⟩
      show el false (r.reached.set p true) (p : Int).toNat = true
      rw [el_set, if_pos ⟨by simp, by rw [h.lr]; exact hp⟩]
  · intro i hi hr
    show (el zState (r.list.set p y) i).regs.length = R
    have hr2 : el false (r.reached.set p true) i = true := hr
    rw [el_set] at hr2 ⊢
    by_cases e : i = p ∧ p < r.list.length
    · rw [if_pos e]; exact hy
    · rw [if_neg e]
      rw [if_neg (fun k => e ⟨k.1, by rw [h.ll]; rw [h.lr] at k; exact k.2⟩)] at hr2
      exact h.rs i hi hr2
  · show pot R _ + (r.queue ++ [(p : Int)]).length ≤ _
    omega
  · show r.k ≤ (r.queue ++ [(p : Int)]).length
    have := h.kq
    omega
  · show pot R _ + (r.queue ++ [(p : Int)]).length ≤ _
    omega
  · show _ ≤ (r.queue ++ [(p : Int)]).length
    omega
theorem Inv.bad {n R : Nat} {r : Fl} (h : Inv n R r) : Inv n R { r with bad := true } := ⟨h.ll, h.lr, h.qs, h.rs, h.pt, h.kq⟩
theorem Step.bad (R : Nat) (r : Fl) : Step R r { r with bad := true } := ⟨Nat.le_refl _, rfl, Nat.le_refl _, fun _ => rfl, fun _ _ => rfl⟩
theorem come_inv {n R : Nat} {r : Fl} {p : Nat} {s : State} (h : Inv n R r) (hs : s.regs.length = R) : Inv n R (come r p s) ∧ Step R r (come r p s) := by
  unfold come
  by_cases h1 : r.list.length ≤ p
  · rw [if_pos h1]; exact ⟨h.bad, Step.bad R r⟩
  · rw [if_neg h1]
    have hp : p < n := by rw [← h.ll]; omega
    by_cases h2 : el false r.reached p = true
    · rw [if_pos h2]
      by_cases h3 : joinS (el zState r.list p) s = el zState r.list p
      · rw [if_pos h3]; exact ⟨h, Step.refl R r⟩
      · rw [if_neg h3]
        have hR := h.rs p hp h2
        have hc := cnt_join (a := el zState r.list p) (s := s) (by rw [hs, hR]) h3
        exact come_put h hp (by rw [join_len (by rw [hs, hR]), hR]) (by unfold wt; rw [if_pos h2]; exact hc)
    · rw [if_neg h2]
      have := cnt_le hs
      exact come_put h hp hs (by unfold wt; rw [if_neg h2]; omega)
theorem hands_inv {n R : Nat} {r : Fl} {hs : List Handler} {p : Int} {s : State} (h : Inv n R r) (hl : s.regs.length = R) : ∀ j, Inv n R (handsTo hs p s r j) ∧ Step R r (handsTo hs p s r j)
  | 0 => ⟨h, Step.refl R r⟩
  | j + 1 => by
    have ih := hands_inv (hs := hs) (p := p) h hl j
    unfold handsTo
    split
    · have g := come_inv (p := (el zHandler hs j).target.toNat) (s := ⟨1, s.regs⟩) ih.1 hl
      exact ⟨g.1, ih.2.then_ g.2⟩
    · exact ih
theorem after_len {i : Ins} {s : State} : (afterS i s).regs.length = s.regs.length := by
  unfold afterS
  split
  · rfl
  · split
    · simp
    · split
      · simp
      · rfl
theorem jump_inv {n R : Nat} {r : Fl} {i : Ins} {s : State} (h : Inv n R r) (hl : s.regs.length = R) : Inv n R (jump r i s) ∧ Step R r (jump r i s) := by
  unfold jump
  split
  · exact come_inv h hl
  · exact ⟨h, Step.refl R r⟩
theorem next_inv {n R : Nat} {r : Fl} {i : Ins} {p : Nat} {s : State} (h : Inv n R r) (hl : s.regs.length = R) : Inv n R (next r i p s) ∧ Step R r (next r i p s) := by
  unfold next
  split
  · exact ⟨h, Step.refl R r⟩
  · exact come_inv h hl
theorem Inv.pop {n R : Nat} {r : Fl} (h : Inv n R r) (hk : r.k < r.queue.length) : Inv n R { r with k := r.k + 1 } := ⟨h.ll, h.lr, h.qs, h.rs, h.pt, hk⟩
theorem at_ok {n R : Nat} {r : Fl} (h : Inv n R r) (hk : r.k < r.queue.length) : 0 ≤ el 0 r.queue r.k ∧ (el 0 r.queue r.k).toNat < n ∧ (el zState r.list (el 0 r.queue r.k).toNat).regs.length = R := by
  obtain ⟨h1, h2, h3⟩ := h.qs _ (el_mem 0 hk)
  exact ⟨h1, h2, h.rs _ h2 h3⟩
/-- What is still to be done. -/
def meas (R : Nat) (r : Fl) : Nat := pot R r + r.queue.length - r.k
theorem step_inv {n R : Nat} {r : Fl} {x : Image} {f : Func} (h : Inv n R r) (hk : r.k < r.queue.length) : Inv n R (step x f r) ∧ Step R { r with k := r.k + 1 } (step x f r) := by
  have ha := (at_ok h hk).2.2
  have hh := hands_inv (hs := f.handlers) (p := (((el 0 r.queue r.k).toNat : Nat) : Int)) (h.pop hk) ha f.handlers.length
  unfold step
  simp only
  split
  · have hj := jump_inv (i := el zIns f.code (el 0 r.queue r.k).toNat) (s := afterS (el zIns f.code (el 0 r.queue r.k).toNat) (el zState r.list (el 0 r.queue r.k).toNat)) hh.1 (by rw [after_len]; exact ha)
    have hn := next_inv (i := el zIns f.code (el 0 r.queue r.k).toNat) (p := (el 0 r.queue r.k).toNat) (s := afterS (el zIns f.code (el 0 r.queue r.k).toNat) (el zState r.list (el 0 r.queue r.k).toNat)) hj.1 (by rw [after_len]; exact ha)
    exact ⟨hn.1, (hh.2.then_ hj.2).then_ hn.2⟩
  · exact ⟨hh.1.bad, hh.2.then_ (Step.bad R _)⟩
theorem step_meas {n R : Nat} {r : Fl} {x : Image} {f : Func} (h : Inv n R r) (hk : r.k < r.queue.length) : meas R (step x f r) < meas R r := by
  have g := (step_inv (x := x) (f := f) h hk).2
  have g1 := g.pq
  have g2 := g.kk
  have g3 : pot R { r with k := r.k + 1 } = pot R r := rfl
  have g4 := (step_inv (x := x) (f := f) h hk).1.kq
  unfold meas
  have g5 : ({ r with k := r.k + 1 } : Fl).k = r.k + 1 := rfl
  have g6 : ({ r with k := r.k + 1 } : Fl).queue = r.queue := rfl
  rw [g5] at g2
  rw [g3, g6] at g1
  omega
theorem it_inv {n R : Nat} {r : Fl} {x : Image} {f : Func} (h : Inv n R r) : ∀ j, Inv n R (it x f r j)
  | 0 => h
  | j + 1 => by
    have ih := it_inv (x := x) (f := f) h j
    unfold it
    split
    · exact ih
    · rename_i hd
      have hk : (it x f r j).k < (it x f r j).queue.length := by
        apply Nat.lt_of_not_le
        intro e
        exact hd (.inr e)
      exact (step_inv ih hk).1
theorem it_stop {x : Image} {f : Func} {r : Fl} {j : Nat} (h : done (it x f r j)) : ∀ d, it x f r (j + d) = it x f r j
  | 0 => rfl
  | d + 1 => by
    have ih := it_stop h d
    show (if done (it x f r (j + d)) then it x f r (j + d) else step x f (it x f r (j + d))) = _
    rw [ih, if_pos h]
theorem it_done {n R : Nat} {r : Fl} {x : Image} {f : Func} (h : Inv n R r) : ∀ j, meas R (it x f r j) + j ≤ meas R r ∨ done (it x f r j)
  | 0 => .inl (Nat.le_refl _)
  | j + 1 => by
    rcases it_done (x := x) (f := f) h j with ih | ih
    · by_cases hd : done (it x f r j)
      · right
        have := it_stop hd 1
        rw [this]
        exact hd
      · left
        have hk : (it x f r j).k < (it x f r j).queue.length := by
          apply Nat.lt_of_not_le
          intro e
          exact hd (.inr e)
        have hm := step_meas (x := x) (f := f) (it_inv (x := x) (f := f) h j) hk
        have e : it x f r (j + 1) = step x f (it x f r j) := by
          show (if done (it x f r j) then it x f r j else step x f (it x f r j)) = _
          rw [if_neg hd]
        rw [e]
        omega
    · right
      have := it_stop ih 1
      rw [this]
      exact ih
theorem done_at {n R : Nat} {r : Fl} {x : Image} {f : Func} (h : Inv n R r) : done (it x f r (meas R r + 1)) := by
  rcases it_done (x := x) (f := f) h (meas R r + 1) with e | e
  · omega
  · exact e
/-- What comes of it in the end. -/
def final (x : Image) (f : Func) : Fl := it x f (start f) (meas f.regs.toNat (start f) + 1)
theorem begin_len {f : Func} (h : f.params ≤ f.regs) (h0 : 0 ≤ f.params) : (begin f).regs.length = f.regs.toNat := by
  unfold begin
  simp
  omega
theorem blank_inv (f : Func) : Inv f.code.length f.regs.toNat (blank f) := by
  have hz : ∀ n : Nat, ((List.replicate n zState).zip (List.replicate n false)).map (wt f.regs.toNat) = List.replicate n (f.regs.toNat + 3) := by
    intro n
    rw [List.zip_replicate']
    simp [wt]
  refine ⟨by simp [blank], by simp [blank], fun q hq => by simp [blank] at hq, fun i hi hr => ?_, ?_, Nat.le_refl _⟩
  · unfold blank el at hr
    simp [hi] at hr
  · unfold pot
    show (((List.replicate f.code.length zState).zip (List.replicate f.code.length false)).map (wt f.regs.toNat)).sum + 0 ≤ _
    rw [hz]
    simp
    rw [Nat.mul_comm]
    exact Nat.le_refl _
theorem start_inv {f : Func} (h : f.params ≤ f.regs) (h0 : 0 ≤ f.params) : Inv f.code.length f.regs.toNat (start f) := (come_inv (blank_inv f) (begin_len h h0)).1
/-- Where it has come to an end, it has come to its end. -/
theorem final_of {x : Image} {f : Func} (h : f.params ≤ f.regs) (h0 : 0 ≤ f.params) {j : Nat} (hd : done (it x f (start f) j)) : it x f (start f) j = final x f := by
  unfold final
  have hm := done_at (x := x) (f := f) (start_inv h h0)
  rcases Nat.le_total j (meas f.regs.toNat (start f) + 1) with hle | hle
  · obtain ⟨d, hd2⟩ := Nat.exists_eq_add_of_le hle
    rw [hd2, it_stop hd d]
  · obtain ⟨d, hd2⟩ := Nat.exists_eq_add_of_le hle
    rw [hd2, it_stop hm d]
/-- A step that ends badly ends badly however it goes on. -/
theorem final_bad {x : Image} {f : Func} (h : f.params ≤ f.regs) (h0 : 0 ≤ f.params) {j : Nat} (hb : (it x f (start f) j).bad = true) : (final x f).bad = true := by
  rw [← final_of h h0 (.inl hb)]
  exact hb
end Go.Proofs.Ytcbaokflimdjnaa.Flow
end
section
namespace Go.Proofs.Ytcbaokflimdjnaa.Flow
open Go.RowKit Go.Proofs.YtcbaokflimdjnaaW.PrintWords Go.Proofs.YtcbaokflimdjnaaW.PrintMore Go.Proofs.Ytcbaokflimdjnaa.Law Go.Proofs.Ytcbaokflimdjnaa
set_option linter.unusedVariables false
set_option linter.unusedSimpArgs false
set_option autoImplicit false
theorem M_over {α : Type} {d : Kd α} {W w1 : World} {base : Nat} {ok : Nat → Prop} {x : α} {cs : List Value} {k0 : Nat} {e' : TypeId} (h : d.M W base ok x cs) (hty : ∃ cells, W.heap[k0]? = some (.cells cells e' (0, 0))) (ht : ∀ q, q ∈ d.E → q ≠ e') (hg : W.grownBy w1 (some k0)) : d.M w1 base ok x cs := by
  refine d.M_mono (fun _ hk => hk.1) (d.M_move (fun k hk => hg.block k hk.2.2.1 (fun he => ?_)) (d.M_bound h))
  obtain ⟨_, _, _, q, hq, cells, hc⟩ := hk
  obtain ⟨cells', hc'⟩ := hty
  injection he with he
  subst he
  rw [hc] at hc'
  injection hc' with hc'
  injection hc' with _ hc'
  exact ht q hq hc'
theorem M_after {α : Type} {d : Kd α} {base : Nat} {ok : Nat → Prop} {W w1 : World} {v v1 : Value} {x : α} {cs : List Value} (h : d.M W base (fun k => ok k ∧ some k ≠ v.ownBlock) x cs) (hg : W.grownBy w1 v.ownBlock) (hat : v1.ownBlock = v.ownBlock ∨ ∃ b, v1.ownBlock = some b ∧ W.heap.size ≤ b) : d.M w1 base (fun k => ok k ∧ some k ≠ v1.ownBlock) x cs := by
  refine d.M_mono (fun k hk => ⟨hk.1.1, ?_⟩) (d.M_move (fun k hk => hg.block k hk.2.2.1 hk.1.2) (d.M_bound h))
  rcases hat with hat | ⟨b, hb, hle⟩
  · rw [hat]; exact hk.1.2
  · rw [hb]
    intro he
    injection he with he
    have := hk.2.2.1
    omega
/-- A state whose registers are neither the box nor what is still to be done. -/
def SOk (g lo : Nat) (W : World) (vt : Value) (s : State) (cs : List Value) : Prop := kStateI.M W lo (fun b => b ≠ g ∧ some b ≠ vt.ownBlock) s cs
/-- A block of others: neither the box nor one of its rows. -/
def BOk (g : Nat) (vl vr vt : Value) (W : World) (b : Nat) (o : Obj) : Prop := W.heap[b]? = some o ∧ b ≠ g ∧ some b ≠ vl.ownBlock ∧ some b ≠ vr.ownBlock ∧ some b ≠ vt.ownBlock
theorem BOk.step {g : Nat} {vl vr vt : Value} {W W2 : World} {b : Nat} {o : Obj} (h : BOk g vl vr vt W b o) (hb : Below W.heap.size W W2) : BOk g vl vr vt W2 b o := ⟨(hb.block b (blk_lt h.1)).trans h.1, h.2⟩
theorem BOk.set {g : Nat} {vl vr vt : Value} {W : World} {b : Nat} {o : Obj} (h : BOk g vl vr vt W b o) (j : Nat) (u : Value) : BOk g vl vr vt (W.setCell ⟨g, j, none⟩ u) b o := ⟨(Below.heap_setCell W ⟨g, j, none⟩ u b h.2.1).trans h.1, h.2⟩
structure Run (t : TypeId) (cs : Array Value) (d g lo : Nat) (w0 W : World) (r : Fl) (vl vr vt : Value) : Prop where
  below : Below w0.heap.size w0 W
  hlo : w0.heap.size ≤ lo
  hg : w0.heap.size ≤ g
  box : W.heap[g]? = some (.cells cs t (0, 0))
  L : kStateI.R 31 W lo (fun b => b ≠ g ∧ some b ≠ vt.ownBlock) vl r.list
  B : Kd.bool.R 4 W lo (fun b => b ≠ g) vr r.reached
  Q : (Kd.int .i64).Q 3 W lo (fun b => b ≠ g) vt (r.queue.drop d)
  S : t = 149 → Kd.S kStateI 31 W lo (fun b => b ≠ g ∧ some b ≠ vt.ownBlock) vl r.list
theorem SOk.step {g lo : Nat} {W W2 : World} {vt : Value} {s : State} {cs : List Value} (h : SOk g lo W vt s cs) (hb : Below W.heap.size W W2) : SOk g lo W2 vt s cs := Kd.M_step h (fun k _ hk => hb.block k hk)
theorem SOk.K {g lo : Nat} {W : World} {vt : Value} {s : State} {cs : List Value} (h : SOk g lo W vt s cs) : kStateI.K W s cs := kStateI.K_of_M h
theorem Run.step {t : TypeId} {cs : Array Value} {d g lo : Nat} {w0 W W2 : World} {r : Fl} {vl vr vt : Value} (h : Run t cs d g lo w0 W r vl vr vt) (hb : Below W.heap.size W W2) : Run t cs d g lo w0 W2 r vl vr vt :=
  ⟨below_step h.below hb, h.hlo, h.hg, blk_below h.box hb, Kd.R_below h.L hb, Kd.R_below h.B hb, Kd.Q_below h.Q hb, fun h' => Kd.S_below (h.S h') hb⟩
/-- A new state is apart from all that was. -/
theorem SOk.new {g lo : Nat} {W W2 : World} {vt : Value} {s : State} {cs : List Value} (hm : kStateI.M W2 W.heap.size (fun _ => True) s cs) (hlo : lo ≤ W.heap.size) (hg : g < W.heap.size) (ht : ∀ k, vt.ownBlock = some k → k < W.heap.size) : SOk g lo W2 vt s cs := by
  refine kStateI.M_mono (fun k hk => ⟨?_, fun he => ?_⟩) (kStateI.M_lower hlo (kStateI.M_bound hm))
  · have := hk.2.1
    omega
  · have := ht k he.symm
    have := hk.2.1
    omega
theorem Run.lt {t : TypeId} {cs : Array Value} {d g lo : Nat} {w0 W : World} {r : Fl} {vl vr vt : Value} (h : Run t cs d g lo w0 W r vl vr vt) : g < W.heap.size ∧ ∀ k, vt.ownBlock = some k → k < W.heap.size := ⟨blk_lt h.box, Kd.Q_lt h.Q⟩
/-- A cell of the box is written. -/
theorem Run.set {t : TypeId} {cs cs' : Array Value} {d g lo : Nat} {w0 W : World} {r : Fl} {vl vr vt : Value} (h : Run t cs d g lo w0 W r vl vr vt) (j : Nat) (u : Value) (e : cs.setIfInBounds j u = cs') : Run t cs' d g lo w0 (W.setCell ⟨g, j, none⟩ u) r vl vr vt :=
  ⟨below_set h.below h.hg, h.hlo, h.hg, blk_put h.box j u e, Kd.R_far h.L (fun k hk => hk.1) u, Kd.R_far h.B (fun k hk => hk) u, Kd.Q_far h.Q (fun k hk => hk) u, fun h' => Kd.S_far (h.S h') (fun k hk => hk.1) u⟩
theorem SOk.set {g lo : Nat} {W : World} {vt : Value} {s : State} {cs : List Value} (h : SOk g lo W vt s cs) (j : Nat) (u : Value) : SOk g lo (W.setCell ⟨g, j, none⟩ u) vt s cs :=
  Kd.M_step h (fun k hk _ => Below.heap_setCell W ⟨g, j, none⟩ u k hk.1)
/-- What is told of the run alone changes. -/
theorem Run.as {t : TypeId} {cs : Array Value} {d g lo : Nat} {w0 W : World} {r r2 : Fl} {vl vr vt : Value} (h : Run t cs d g lo w0 W r vl vr vt) (e1 : r2.list = r.list) (e2 : r2.reached = r.reached) (e3 : r2.queue.drop d = r.queue.drop d) : Run t cs d g lo w0 W r2 vl vr vt := by
  refine ⟨h.below, h.hlo, h.hg, h.box, ?_, ?_, ?_, fun h' => ?_⟩
  · rw [e1]; exact h.L
  · rw [e2]; exact h.B
  · rw [e3]; exact h.Q
  · rw [e1]; exact h.S h'
theorem below_grown {w0 W w1 : World} (h : Below w0.heap.size w0 W) {k : Nat} (hk : w0.heap.size ≤ k) (hg : W.grownBy w1 (some k)) : Below w0.heap.size w0 w1 :=
  h.trans ⟨hg.os, hg.tape, hg.output, hg.size, fun i hi => hg.block i (Nat.lt_of_lt_of_le hi h.size) (fun he => by injection he with he; omega)⟩
/-- A state that was just made, apart from the row's. -/
theorem Run.fresh {t : TypeId} {cs : Array Value} {d g lo : Nat} {w0 W W2 : World} {r : Fl} {vl vr vt : Value} (h : Run t cs d g lo w0 W r vl vr vt) (hb : Below W.heap.size W W2) {s : State} {cs' : List Value} (hlo : lo ≤ W.heap.size) (hm : kStateI.M W2 W.heap.size (fun _ => True) s cs') (h' : t = 149) :
    ∃ B, g < B ∧ (∀ k, vt.ownBlock = some k → k < B) ∧ (∀ k, vl.ownBlock = some k → k < B) ∧ kStateI.M W2 lo (fun k => B ≤ k) s cs' ∧ Kd.S kStateI 31 W2 lo (fun k => (k ≠ g ∧ some k ≠ vt.ownBlock) ∧ ¬ B ≤ k) vl r.list :=
  ⟨W.heap.size, blk_lt h.box, Kd.Q_lt h.Q, Kd.R_lt h.L, kStateI.M_mono (fun k hk => hk.2.1) (kStateI.M_lower hlo (kStateI.M_bound hm)), Kd.S_mono (Kd.S_old (h.S h') hb) (fun k hk => ⟨hk.1, by omega⟩)⟩
/-- A state is laid at a place. -/
theorem Run.putL {t : TypeId} {cs : Array Value} {d g lo : Nat} {w0 W : World} {r : Fl} {gl n cap : Nat} {vr vt : Value} (h : Run t cs d g lo w0 W r (.slice (some ⟨gl, 0, none⟩) n cap) vr vt) (ht : t ≠ 31) (p : Nat) (hp : p < r.list.length) {s : State} {a b : Value} (hs : SOk g lo W vt s [a, b])
    (hf : t = 149 → ∃ B, g < B ∧ (∀ k, vt.ownBlock = some k → k < B) ∧ (∀ k, (Value.slice (some ⟨gl, 0, none⟩) n cap).ownBlock = some k → k < B) ∧ kStateI.M W lo (fun k => B ≤ k) s [a, b] ∧ Kd.S kStateI 31 W lo (fun k => (k ≠ g ∧ some k ≠ vt.ownBlock) ∧ ¬ B ≤ k) (.slice (some ⟨gl, 0, none⟩) n cap) r.list) :
    Run t cs d g lo w0 (W.setCells gl (p * 2) [a, b]) { r with list := r.list.set p s } (.slice (some ⟨gl, 0, none⟩) n cap) vr vt ∧ (∀ s' cs', SOk g lo W vt s' cs' → SOk g lo (W.setCells gl (p * 2) [a, b]) vt s' cs') ∧ (∀ q o, BOk g (.slice (some ⟨gl, 0, none⟩) n cap) vr vt W q o → BOk g (.slice (some ⟨gl, 0, none⟩) n cap) vr vt (W.setCells gl (p * 2) [a, b]) q o) := by
  have hn := (Kd.R_reads' h.L).1
  obtain ⟨c, hcl, _, hcc, _⟩ := Kd.R_elem h.L zState (p : Int) (by omega) (by omega)
  have hcl2 : c.length = 2 := hcl
  have hz : kStateI.sz = 2 := rfl
  have hty := own_typed (Kd.R_own h.L).choose_spec gl (by simp [Value.ownBlock])
  have hss : kStateI.M W lo (fun k => (k ≠ g ∧ some k ≠ vt.ownBlock) ∧ k ≠ gl) s [a, b] := by
    refine kStateI.M_mono (fun k hk => ⟨hk.1, fun he => ?_⟩) (kStateI.M_bound hs)
    obtain ⟨_, _, _, q, hq, cells, hc⟩ := hk
    obtain ⟨cells', hc'⟩ := hty
    subst he
    rw [hc] at hc'
    injection hc' with hc'
    injection hc' with _ hc'
    have : q = 3 := by simpa [kStateI, Kd.iso, Kd.pair, Kd.int, Kd.scalar, Kd.slice] using hq
    rw [this] at hc'
    exact absurd hc' (by decide)
  have hM : kStateI.M W lo (fun k => (k ≠ g ∧ some k ≠ vt.ownBlock) ∧ k ≠ gl) s (c.take 0 ++ [a, b] ++ c.drop (0 + [a, b].length)) := by
    have e : c.take 0 ++ [a, b] ++ c.drop (0 + [a, b].length) = [a, b] := by
      rw [List.drop_eq_nil_of_le (by rw [hcl2]; exact Nat.le_refl _)]
      simp
    rw [e]
    exact hss
  obtain ⟨hL, hgw⟩ := Kd.R_seg h.L (p : Int) (by omega) (by omega) hcl hcc (seg := [a, b]) (j := 0) (by rw [hz]; exact Nat.le_refl _) (x' := s) hM (fun k hk => hk)
  rw [Int.toNat_natCast] at hL hgw
  have hgl : w0.heap.size ≤ gl := Nat.le_trans h.hlo (Kd.R_base h.L gl (by simp [Value.ownBlock]))
  have hne : g ≠ gl := fun e => by
    have := h.L.1 gl (by simp [Value.ownBlock])
    exact this.1 e.symm
  refine ⟨⟨below_grown h.below hgl hgw, h.hlo, h.hg, blk_grown h.box hgw (fun e => hne (by injection e)), hL, ?_, ?_, fun h' => ?_⟩, fun s' cs' hs' => M_over hs' hty (fun q hq => ?_) hgw, fun q o hq => ⟨blk_grown hq.1 hgw (by simpa [Value.ownBlock] using hq.2.2.1), hq.2⟩⟩
  · exact Kd.R_over' (v := .slice (some ⟨gl, 0, none⟩) n cap) h.B (fun k hk => by have e : gl = k := (by simpa [Value.ownBlock] using hk); subst e; exact hty) (fun q hq => by have : q = 4 := (by simpa [Kd.bool, Kd.scalar] using hq); rw [this]; decide) hgw
  · exact Kd.Q_over' (v := .slice (some ⟨gl, 0, none⟩) n cap) h.Q (fun k hk => by have e : gl = k := (by simpa [Value.ownBlock] using hk); subst e; exact hty) (fun q hq => by have : q = 3 := (by simpa [Kd.int, Kd.scalar] using hq); rw [this]; decide) hgw
  · obtain ⟨B, hgB, htB, hlB, hMf, hSf⟩ := hf h'
    obtain ⟨oki, c', hcl', _, _, _, _, hH⟩ := Kd.S_elem hSf zState (p : Int) (by omega) (by omega)
    have hcl3 : c'.length = 2 := hcl'
    have e3 : c'.take 0 ++ [a, b] ++ c'.drop (0 + [a, b].length) = [a, b] := by
      rw [List.drop_eq_nil_of_le (by rw [hcl3]; exact Nat.le_refl _)]
      simp
    have hS := (Kd.S_seg (okg := fun k => B ≤ k) (okp := fun k => B ≤ k) hH (by omega) (by omega) (seg := [a, b]) (j := 0) (by rw [hz]; exact Nat.le_refl _) (x' := s) (by rw [e3]; exact hMf) (fun k hk => .inr hk) (fun k hk => ⟨⟨by omega, fun e => by have := htB k e.symm; omega⟩, fun e => by have := hlB gl (by simp [Value.ownBlock]); omega⟩)).1
    rw [Int.toNat_natCast] at hS
    exact hS
  · have : q = 3 := by simpa [kStateI, Kd.iso, Kd.pair, Kd.int, Kd.scalar, Kd.slice] using hq
    rw [this]
    decide
/-- A place is reached. -/
theorem Run.putB {t : TypeId} {cs : Array Value} {d g lo : Nat} {w0 W : World} {r : Fl} {gr n cap : Nat} {vl vt : Value} (h : Run t cs d g lo w0 W r vl (.slice (some ⟨gr, 0, none⟩) n cap) vt) (p : Nat) (hp : p < r.reached.length) :
    Run t cs d g lo w0 (W.setCell ⟨gr, p, none⟩ (.bool true)) { r with reached := r.reached.set p true } vl (.slice (some ⟨gr, 0, none⟩) n cap) vt ∧ (∀ s' cs', SOk g lo W vt s' cs' → SOk g lo (W.setCell ⟨gr, p, none⟩ (.bool true)) vt s' cs') ∧ (∀ q o, BOk g vl (.slice (some ⟨gr, 0, none⟩) n cap) vt W q o → BOk g vl (.slice (some ⟨gr, 0, none⟩) n cap) vt (W.setCell ⟨gr, p, none⟩ (.bool true)) q o) := by
  have hn := (Kd.R_reads' h.B).1
  have hty := own_typed (Kd.R_own h.B).choose_spec gr (by simp [Value.ownBlock])
  obtain ⟨hB, hgw⟩ := Kd.R_putg h.B (p : Int) true
  rw [Int.toNat_natCast] at hB hgw
  have hgr : w0.heap.size ≤ gr := Nat.le_trans h.hlo (Kd.R_base h.B gr (by simp [Value.ownBlock]))
  have hne : g ≠ gr := fun e => h.B.1 gr (by simp [Value.ownBlock]) e.symm
  have ho : ∀ k, (Value.slice (some ⟨gr, 0, none⟩) n cap).ownBlock = some k → ∃ cells, W.heap[k]? = some (.cells cells 4 (0, 0)) := fun k hk => by have e : gr = k := (by simpa [Value.ownBlock] using hk); subst e; exact hty
  refine ⟨⟨below_grown h.below hgr hgw, h.hlo, h.hg, blk_grown h.box hgw (fun e => hne (by injection e)), ?_, hB, ?_, fun h' => ?_⟩, fun s' cs' hs' => M_over hs' hty (fun q hq => ?_) hgw, fun q o hq => ⟨blk_grown hq.1 hgw (by simpa [Value.ownBlock] using hq.2.2.2.1), hq.2⟩⟩
  · exact Kd.R_over' (v := .slice (some ⟨gr, 0, none⟩) n cap) h.L ho (fun q hq => by
      rcases List.mem_cons.1 hq with rfl | hq
      · decide
      · have : q = 3 := by simpa [kStateI, Kd.iso, Kd.pair, Kd.int, Kd.scalar, Kd.slice] using hq
        rw [this]; decide) hgw
  · exact Kd.Q_over' (v := .slice (some ⟨gr, 0, none⟩) n cap) h.Q ho (fun q hq => by have : q = 3 := (by simpa [Kd.int, Kd.scalar] using hq); rw [this]; decide) hgw
  · exact Kd.S_over' (v := .slice (some ⟨gr, 0, none⟩) n cap) (h.S h') ho (fun q hq => by
      rcases List.mem_cons.1 hq with rfl | hq
      · decide
      · have : q = 3 := by simpa [kStateI, Kd.iso, Kd.pair, Kd.int, Kd.scalar, Kd.slice] using hq
        rw [this]; decide) hgw
  · have : q = 3 := by simpa [kStateI, Kd.iso, Kd.pair, Kd.int, Kd.scalar, Kd.slice] using hq
    rw [this]
    decide
/-- What is to be done has grown by a place (and is not in the box yet). -/
theorem Run.app {t : TypeId} {cs : Array Value} {d g lo : Nat} {w0 W w1 : World} {r : Fl} {vl vr vt v1 : Value} (h : Run t cs d g lo w0 W r vl vr vt) (p : Int) (hd : d ≤ r.queue.length) (ht : t ≠ 3) (hQ : (Kd.int .i64).Q 3 w1 lo (fun b => b ≠ g) v1 (r.queue.drop d ++ [p])) (hb : Below w0.heap.size w0 w1) (hg : W.grownBy w1 vt.ownBlock) (hat : v1.ownBlock = vt.ownBlock ∨ ∃ b, v1.ownBlock = some b ∧ W.heap.size ≤ b) :
    Run t cs d g lo w0 w1 { r with queue := r.queue ++ [p] } vl vr v1 ∧ (∀ s' cs', SOk g lo W vt s' cs' → SOk g lo w1 v1 s' cs') ∧ (∀ q o, BOk g vl vr vt W q o → BOk g vl vr v1 w1 q o) := by
  have hty := Kd.Q_typed h.Q
  refine ⟨⟨hb, h.hlo, h.hg, blk_grown h.box hg (fun e => h.Q.1 g e.symm rfl), Kd.R_after h.L hg hat, ?_, ?_, fun h' => Kd.S_after (h.S h') hg hat⟩, fun s' cs' hs' => M_after hs' hg hat, fun q o hq => ⟨blk_grown hq.1 hg hq.2.2.2.2, hq.2.1, hq.2.2.1, hq.2.2.2.1, fun e => ?_⟩⟩
  · exact Kd.R_over' h.B hty (fun q hq => by have : q = 4 := (by simpa [Kd.bool, Kd.scalar] using hq); rw [this]; decide) hg
  · show (Kd.int .i64).Q 3 w1 lo (fun b => b ≠ g) v1 ((r.queue ++ [p]).drop d)
    rw [List.drop_append_of_le_length hd]
    exact hQ
  · have hlt := blk_lt hq.1
    rcases hat with hat | ⟨b, hb2, hle⟩
    · exact hq.2.2.2.2 (e.trans hat)
    · rw [hb2] at e
      injection e with e
      omega
end Go.Proofs.Ytcbaokflimdjnaa.Flow
end
section
namespace Go.Proofs.Ytcbaokflimdjnaa.Flow
open Go.RowKit Go.Proofs.YtcbaokflimdjnaaW.PrintWords Go.Proofs.YtcbaokflimdjnaaW.PrintMore Go.Proofs.Ytcbaokflimdjnaa.Law Go.Proofs.Ytcbaokflimdjnaa
set_option linter.unusedVariables false
set_option linter.unusedSimpArgs false
set_option autoImplicit false
def stepP (x : Image) (f : Func) (r : Fl) (p : Nat) : Fl :=
  if mayB x f (el zIns f.code p) (el zState r.list p) = true then next (jump (handsTo f.handlers (p : Int) (el zState r.list p) r f.handlers.length) (el zIns f.code p) (afterS (el zIns f.code p) (el zState r.list p))) (el zIns f.code p) p (afterS (el zIns f.code p) (el zState r.list p))
  else { handsTo f.handlers (p : Int) (el zState r.list p) r f.handlers.length with bad := true }
theorem step_eq (x : Image) (f : Func) (r : Fl) : step x f r = stepP x f { r with k := r.k + 1 } (el 0 r.queue r.k).toNat := rfl
structure FnOk (x : Image) (f : Func) : Prop where
  fl : x.funcs.length ≤ 16
  pr : 0 ≤ f.params ∧ f.params ≤ 4
  rg : f.params ≤ f.regs ∧ f.regs ≤ 40
  cl : f.caps.length ≤ 20
  kl : 1 ≤ f.code.length ∧ f.code.length ≤ 300
  hl : f.handlers.length ≤ 40
  code : ∀ i ∈ f.code, (1 ≤ i.op ∧ i.op ≤ 19) ∧ (0 ≤ i.a ∧ i.a ≤ 300) ∧ (0 ≤ i.b ∧ i.b ≤ 300)
  hand : ∀ h ∈ f.handlers, (0 ≤ h.from_ ∧ h.from_ ≤ 300) ∧ (0 ≤ h.to_ ∧ h.to_ ≤ 300) ∧ (0 ≤ h.target ∧ h.target ≤ 300)
theorem fn_ok {x : Image} (h : imgB x = true) {f : Func} (hf : f ∈ x.funcs) : FnOk x f := by
  have hfb := img_func h hf
  have hlen := img_len h
  unfold funcB Img.inB at hfb
  simp only [Bool.and_eq_true, decide_eq_true_eq, List.all_eq_true] at hfb
  refine ⟨by omega, by omega, by omega, by omega, by omega, by omega, fun i hi => ?_, fun q hq => ?_⟩
  · have k := hfb.2.2.2.2.2.2.1 i hi
    unfold insB Img.inB at k
    simp only [Bool.and_eq_true, decide_eq_true_eq] at k
    exact ⟨k.1, k.2.1, k.2.2⟩
  · have k := hfb.2.2.2.2.2.2.2 q hq
    unfold hdB Img.inB at k
    simp only [Bool.and_eq_true, decide_eq_true_eq] at k
    exact ⟨k.1, k.2.1, k.2.2⟩
theorem Run.low {t : TypeId} {cs : Array Value} {d g lo : Nat} {w0 W : World} {r : Fl} {vl vr vt : Value} (h : Run t cs d g lo w0 W r vl vr vt) (hn : 0 < r.list.length) : lo ≤ W.heap.size := by
  obtain ⟨gl, cl, hgl, hb, hlt, _⟩ := Kd.R_form h.L hn
  omega
theorem inv_q {n R : Nat} {r : Fl} (h : Inv n R r) (hn : n ≤ 300) (hR : R ≤ 40) : r.queue.length ≤ 12900 := by
  have h1 := h.pt
  have h2 : (R + 3) * n ≤ 43 * 300 := Nat.mul_le_mul (by omega) hn
  omega
/-- A box that is new. -/
theorem _root_.Go.Proofs.Ytcbaokflimdjnaa.Law.Mem.boxed {w W w1 : World} {H : List Hold} (h : Mem w W H) {g : Nat} {cs : Array Value} {t : TypeId} (hg : g = W.heap.size) (hx : w1.heap[g]? = some (.cells cs t (0, 0))) (hb : Below W.heap.size W w1) : Mem w w1 (Hold.box g cs t :: H) := by
  have h2 := h.step hb
  refine ⟨h2.below, fun y hy => ?_, fun y hy => ?_, List.Pairwise.cons (fun b hb => .inl (by have := (h.fits b hb).2; rw [hg]; exact this)) h.apart⟩
  · rcases List.mem_cons.1 hy with rfl | hy
    · exact hx
    · exact h2.says y hy
  · rcases List.mem_cons.1 hy with rfl | hy
    · exact ⟨by show w.heap.size ≤ g; rw [hg]; exact h.below.size, by have := blk_lt hx; show g + 1 ≤ _; omega⟩
    · exact h2.fits y hy
/-- A new state over a row that is a value of its own. -/
theorem SOk.of_val {g lo b hi : Nat} {W : World} {vt : Value} {s : State} {a a2 : Int} {v : Value} (h : kStateI.M W b (fun k => b ≤ k ∧ k < hi) s [.int .i64 a, v]) (hlo : lo ≤ b) (hg : g < b) (ht : ∀ k, vt.ownBlock = some k → k < b) : SOk g lo W vt ⟨a2, s.regs⟩ [.int .i64 a2, v] := by
  obtain ⟨v2, hv, hr⟩ := kStateI_openM h
  injection hv with h1 h2
  injection h2 with h2 _
  subst h2
  refine kStateI_mkM _ _ _ ⟨a2, s.regs⟩ (Kd.R_lower (Kd.R_mono hr (fun k hk => ⟨fun e => by have := hk.1; omega, fun e => by have := ht k e.symm; have := hk.1; omega⟩)) hlo)
/-- The first state's registers, so far. -/
def filled (R q : Nat) : List Int := List.replicate q 1 ++ List.replicate (R - q) 0
theorem filled_len {R q : Nat} (h : q ≤ R) : (filled R q).length = R := by
  unfold filled
  simp
  omega
theorem filled_set {R q : Nat} (h : q < R) : (filled R q).set q 1 = filled R (q + 1) := by
  unfold filled
  obtain ⟨d, hd⟩ : ∃ d, R - q = d + 1 := ⟨R - q - 1, by omega⟩
  rw [hd, show R - (q + 1) = d by omega, List.set_append_right _ _ (by simp), List.length_replicate, Nat.sub_self, List.replicate_succ, List.set_cons_zero, List.replicate_succ' (n := q), List.append_assoc]
  rfl
theorem begin_filled (f : Func) : begin f = ⟨0, filled f.regs.toNat f.params.toNat⟩ := rfl
theorem it_succ {x : Image} {f : Func} {r : Fl} {n : Nat} (h : ¬ done (it x f r n)) : it x f r (n + 1) = step x f (it x f r n) := by
  show (if done (it x f r n) then it x f r n else step x f (it x f r n)) = _
  rw [if_neg h]
/-- What is to be done loses its first: its row stands in the same block. -/
theorem Run.pop {t : TypeId} {cs cs' : Array Value} {d g lo : Nat} {w0 W : World} {r : Fl} {vl vr : Value} {gt ot n c ot2 : Nat} (h : Run t cs d g lo w0 W r vl vr (.slice (some ⟨gt, ot, none⟩) n c)) (hd : d < r.queue.length) (hn : n = r.queue.length - d) (ho : ot2 = if c = 1 then ot else ot + 1) (j : Nat) (e : cs.setIfInBounds j (.slice (some ⟨gt, ot2, none⟩) (n - 1) (c - 1)) = cs') :
    Run t cs' (d + 1) g lo w0 (W.setCell ⟨g, j, none⟩ (.slice (some ⟨gt, ot2, none⟩) (n - 1) (c - 1))) r vl vr (.slice (some ⟨gt, ot2, none⟩) (n - 1) (c - 1)) := by
  have h2 := h.set j (.slice (some ⟨gt, ot2, none⟩) (n - 1) (c - 1)) e
  refine ⟨h2.below, h2.hlo, h2.hg, h2.box, Kd.R_mono h2.L (fun k hk => ⟨hk.1, fun e => hk.2 (by rw [e]; rfl)⟩), h2.B, ?_, fun h' => Kd.S_mono (h2.S h') (fun k hk => ⟨hk.1, fun e => hk.2 (by rw [e]; rfl)⟩)⟩
  have q := Kd.Q_drop (k := 1) h2.Q (by rw [List.length_drop]; omega)
  rw [List.drop_drop] at q
  have e2 : (if c = 1 then some (⟨gt, ot, none⟩ : Addr) else (some (⟨gt, ot, none⟩ : Addr)).map (·.add (1 * (Kd.int .i64).sz))) = some ⟨gt, ot2, none⟩ := by
    rw [ho]
    split
    · rfl
    · rfl
  rw [e2] at q
  exact q
theorem BOk.pop {g : Nat} {vl vr : Value} {gt ot ot2 n c n2 c2 : Nat} {W : World} {b : Nat} {o : Obj} (h : BOk g vl vr (.slice (some ⟨gt, ot, none⟩) n c) W b o) (j : Nat) : BOk g vl vr (.slice (some ⟨gt, ot2, none⟩) n2 c2) (W.setCell ⟨g, j, none⟩ (.slice (some ⟨gt, ot2, none⟩) n2 c2)) b o := by
  have h2 := h.set j (.slice (some ⟨gt, ot2, none⟩) n2 c2)
  exact ⟨h2.1, h2.2.1, h2.2.2.1, h2.2.2.2.1, fun e => h2.2.2.2.2 (by rw [e]; rfl)⟩
end Go.Proofs.Ytcbaokflimdjnaa.Flow
end
