/- Part 18 of the proof: general lemmas, contracts of functions, walks. No condition of its own. -/
import Derived.Test.YtokhgodcamhibaaBd14
import Derived.Test.YtokhgodcamhibaaBd15
section
namespace Go.Proofs.Ytokhgodcamhibaa.QFnExactDoBinary
open Go.RowKit Go.Proofs.YtokhgodcamhibaaW.PrintWords Go.Proofs.YtokhgodcamhibaaW.PrintLast Go.Proofs.YtokhgodcamhibaaW.PrintMore
attribute [local go_sem] max_two min_two max_three min_three max_four min_four run_field34_0 max2_mx min2_mn   -- for this text's walks alone
set_option linter.unusedVariables false
set_option linter.unusedSimpArgs false
mutual
def spec_Rem.j0 : Nat → Int → Bool → Int → Bool → Int → Int → Int → Bool → Int → Int → Option (Int)
  | 0, _, _, _, _, _, _, _, _, _, _ => none
  | k + 1, x0, x32, x263000, x263001, x263002, x263003, x268000, x268001, x268002, x268003 => if x32 = true then (some 9221120237041090560) else (if x263000 = 3 then (spec_Rem.j1 k x0 true x263000 x263001 x263002 x263003 x268000 x268001 x268002 x268003) else (spec_Rem.j1 k x0 (x268000 == 2) x263000 x263001 x263002 x263003 x268000 x268001 x268002 x268003))
def spec_Rem.j1 : Nat → Int → Bool → Int → Bool → Int → Int → Int → Bool → Int → Int → Option (Int)
  | 0, _, _, _, _, _, _, _, _, _, _ => none
  | k + 1, x0, x40, x263000, x263001, x263002, x263003, x268000, x268001, x268002, x268003 => if x40 = true then (some x0) else (if x263003 ≥ x268003 then (if x268002 = 0 then (none) else (spec_Rem.l0 k (Int.tmod x263002 x268002) x268003 x263000 x263001 x263002 x263003 x268000 x268001 x268002 x268003)) else (spec_Rem.l1 k x0 x263002 x268002 x263003 x263000 x263001 x263002 x263003 x268000 x268001 x268002 x268003))
def spec_Rem.l0 : Nat → Int → Int → Int → Bool → Int → Int → Int → Bool → Int → Int → Option (Int)
  | 0, _, _, _, _, _, _, _, _, _, _ => none
  | k + 1, x7, x8, x263000, x263001, x263002, x263003, x268000, x268001, x268002, x268003 => if x8 < x263003 then (if x268002 = 0 then (none) else (spec_Rem.l0 k (Int.tmod (IntKind.u64.wrap (x7 * 2)) x268002) (wrap64 (x8 + 1)) x263000 x263001 x263002 x263003 x268000 x268001 x268002 x268003)) else ((spec_RoundTo.f k x263001 x7 x268003 false).bind fun t268 => (some t268))
def spec_Rem.l1 : Nat → Int → Int → Int → Int → Int → Bool → Int → Int → Int → Bool → Int → Int → Option (Int)
  | 0, _, _, _, _, _, _, _, _, _, _, _, _ => none
  | k + 1, x0, x7, x9, x10, x263000, x263001, x263002, x263003, x268000, x268001, x268002, x268003 => if x10 < x268003 then (if x9 > x7 then (some x0) else (spec_Rem.l1 k x0 x7 (IntKind.u64.wrap (x9 * 2)) (wrap64 (x10 + 1)) x263000 x263001 x263002 x263003 x268000 x268001 x268002 x268003)) else (if x9 = 0 then (none) else ((spec_RoundTo.f k x263001 (Int.tmod x7 x9) x263003 false).bind fun t269 => (some t269)))
end
def spec_Rem.f (k : Nat) (a0 : Int) (a1 : Int) : Option (Int) := (spec_PartsOfNumber.f k a0).bind fun bt258 => ((spec_PartsOfNumber.f k a1).bind fun bt263 => (if bt258.1 = 1 then (spec_Rem.j0 k a0 true bt258.1 bt258.2.1 bt258.2.2.1 bt258.2.2.2 bt263.1 bt263.2.1 bt263.2.2.1 bt263.2.2.2) else (if bt263.1 = 1 then (spec_Rem.j0 k a0 true bt258.1 bt258.2.1 bt258.2.2.1 bt258.2.2.2 bt263.1 bt263.2.1 bt263.2.2.1 bt263.2.2.2) else (if bt258.1 = 2 then (spec_Rem.j0 k a0 true bt258.1 bt258.2.1 bt258.2.2.1 bt258.2.2.2 bt263.1 bt263.2.1 bt263.2.2.1 bt263.2.2.2) else (spec_Rem.j0 k a0 (bt263.1 == 3) bt258.1 bt258.2.1 bt258.2.2.1 bt258.2.2.2 bt263.1 bt263.2.1 bt263.2.2.1 bt263.2.2.2)))))
theorem spec_Rem.mono_l : ∀ k, (∀ y0 y1 y2 y3 y4 y5 y6 y7 y8 y9, LeO (spec_Rem.j0 k y0 y1 y2 y3 y4 y5 y6 y7 y8 y9) (spec_Rem.j0 (k + 1) y0 y1 y2 y3 y4 y5 y6 y7 y8 y9)) ∧ (∀ y0 y1 y2 y3 y4 y5 y6 y7 y8 y9, LeO (spec_Rem.j1 k y0 y1 y2 y3 y4 y5 y6 y7 y8 y9) (spec_Rem.j1 (k + 1) y0 y1 y2 y3 y4 y5 y6 y7 y8 y9)) ∧ (∀ y0 y1 y2 y3 y4 y5 y6 y7 y8 y9, LeO (spec_Rem.l0 k y0 y1 y2 y3 y4 y5 y6 y7 y8 y9) (spec_Rem.l0 (k + 1) y0 y1 y2 y3 y4 y5 y6 y7 y8 y9)) ∧ (∀ y0 y1 y2 y3 y4 y5 y6 y7 y8 y9 y10 y11, LeO (spec_Rem.l1 k y0 y1 y2 y3 y4 y5 y6 y7 y8 y9 y10 y11) (spec_Rem.l1 (k + 1) y0 y1 y2 y3 y4 y5 y6 y7 y8 y9 y10 y11))
  | 0 => ⟨fun _ _ _ _ _ _ _ _ _ _ r h => by simp [spec_Rem.j0] at h, fun _ _ _ _ _ _ _ _ _ _ r h => by simp [spec_Rem.j1] at h, fun _ _ _ _ _ _ _ _ _ _ r h => by simp [spec_Rem.l0] at h, fun _ _ _ _ _ _ _ _ _ _ _ _ r h => by simp [spec_Rem.l1] at h⟩
  | k + 1 => by
    obtain ⟨ih0, ih1, ih2, ih3⟩ := spec_Rem.mono_l k
    refine ⟨?_, ?_, ?_, ?_⟩
    · intro y0 y1 y2 y3 y4 y5 y6 y7 y8 y9
      unfold spec_Rem.j0
      repeat' first
      | (with_reducible exact ih0 _ _ _ _ _ _ _ _ _ _)
      | (with_reducible exact ih1 _ _ _ _ _ _ _ _ _ _)
      | (with_reducible exact ih2 _ _ _ _ _ _ _ _ _ _)
      | (with_reducible exact ih3 _ _ _ _ _ _ _ _ _ _ _ _)
      | (with_reducible exact spec_PartsOfNumber.mono _ _)
      | (with_reducible exact spec_RoundTo.mono _ _ _ _ _)
      | (with_reducible exact LeO.refl _)
      | (with_reducible exact LeO.none _)
      | (with_reducible refine LeO.ite ?_ ?_)
      | (with_reducible refine LeO.bind ?_ (fun _ => ?_))
      | exact ih0 _ _ _ _ _ _ _ _ _ _
      | exact ih1 _ _ _ _ _ _ _ _ _ _
      | exact ih2 _ _ _ _ _ _ _ _ _ _
      | exact ih3 _ _ _ _ _ _ _ _ _ _ _ _
      | exact spec_PartsOfNumber.mono _ _
      | exact spec_RoundTo.mono _ _ _ _ _
      | exact LeO.none _
      | refine LeO.ite ?_ ?_
      | refine LeO.bind ?_ (fun _ => ?_)
    · intro y0 y1 y2 y3 y4 y5 y6 y7 y8 y9
      unfold spec_Rem.j1
      repeat' first
      | (with_reducible exact ih0 _ _ _ _ _ _ _ _ _ _)
      | (with_reducible exact ih1 _ _ _ _ _ _ _ _ _ _)
      | (with_reducible exact ih2 _ _ _ _ _ _ _ _ _ _)
      | (with_reducible exact ih3 _ _ _ _ _ _ _ _ _ _ _ _)
      | (with_reducible exact spec_PartsOfNumber.mono _ _)
      | (with_reducible exact spec_RoundTo.mono _ _ _ _ _)
      | (with_reducible exact LeO.refl _)
      | (with_reducible exact LeO.none _)
      | (with_reducible refine LeO.ite ?_ ?_)
      | (with_reducible refine LeO.bind ?_ (fun _ => ?_))
      | exact ih0 _ _ _ _ _ _ _ _ _ _
      | exact ih1 _ _ _ _ _ _ _ _ _ _
      | exact ih2 _ _ _ _ _ _ _ _ _ _
      | exact ih3 _ _ _ _ _ _ _ _ _ _ _ _
      | exact spec_PartsOfNumber.mono _ _
      | exact spec_RoundTo.mono _ _ _ _ _
      | exact LeO.none _
      | refine LeO.ite ?_ ?_
      | refine LeO.bind ?_ (fun _ => ?_)
    · intro y0 y1 y2 y3 y4 y5 y6 y7 y8 y9
      unfold spec_Rem.l0
      repeat' first
      | (with_reducible exact ih0 _ _ _ _ _ _ _ _ _ _)
      | (with_reducible exact ih1 _ _ _ _ _ _ _ _ _ _)
      | (with_reducible exact ih2 _ _ _ _ _ _ _ _ _ _)
      | (with_reducible exact ih3 _ _ _ _ _ _ _ _ _ _ _ _)
      | (with_reducible exact spec_PartsOfNumber.mono _ _)
      | (with_reducible exact spec_RoundTo.mono _ _ _ _ _)
      | (with_reducible exact LeO.refl _)
      | (with_reducible exact LeO.none _)
      | (with_reducible refine LeO.ite ?_ ?_)
      | (with_reducible refine LeO.bind ?_ (fun _ => ?_))
      | exact ih0 _ _ _ _ _ _ _ _ _ _
      | exact ih1 _ _ _ _ _ _ _ _ _ _
      | exact ih2 _ _ _ _ _ _ _ _ _ _
      | exact ih3 _ _ _ _ _ _ _ _ _ _ _ _
      | exact spec_PartsOfNumber.mono _ _
      | exact spec_RoundTo.mono _ _ _ _ _
      | exact LeO.none _
      | refine LeO.ite ?_ ?_
      | refine LeO.bind ?_ (fun _ => ?_)
    · intro y0 y1 y2 y3 y4 y5 y6 y7 y8 y9 y10 y11
      unfold spec_Rem.l1
      repeat' first
      | (with_reducible exact ih0 _ _ _ _ _ _ _ _ _ _)
      | (with_reducible exact ih1 _ _ _ _ _ _ _ _ _ _)
      | (with_reducible exact ih2 _ _ _ _ _ _ _ _ _ _)
      | (with_reducible exact ih3 _ _ _ _ _ _ _ _ _ _ _ _)
      | (with_reducible exact spec_PartsOfNumber.mono _ _)
      | (with_reducible exact spec_RoundTo.mono _ _ _ _ _)
      | (with_reducible exact LeO.refl _)
      | (with_reducible exact LeO.none _)
      | (with_reducible refine LeO.ite ?_ ?_)
      | (with_reducible refine LeO.bind ?_ (fun _ => ?_))
      | exact ih0 _ _ _ _ _ _ _ _ _ _
      | exact ih1 _ _ _ _ _ _ _ _ _ _
      | exact ih2 _ _ _ _ _ _ _ _ _ _
      | exact ih3 _ _ _ _ _ _ _ _ _ _ _ _
      | exact spec_PartsOfNumber.mono _ _
      | exact spec_RoundTo.mono _ _ _ _ _
      | exact LeO.none _
      | refine LeO.ite ?_ ?_
      | refine LeO.bind ?_ (fun _ => ?_)
theorem spec_Rem.mono : ∀ a0 a1 k, LeO (spec_Rem.f k a0 a1) (spec_Rem.f (k + 1) a0 a1) := by
  intro a0 a1 k
  obtain ⟨ih0, ih1, ih2, ih3⟩ := spec_Rem.mono_l k
  unfold spec_Rem.f
  repeat' first
      | (with_reducible exact ih0 _ _ _ _ _ _ _ _ _ _)
      | (with_reducible exact ih1 _ _ _ _ _ _ _ _ _ _)
      | (with_reducible exact ih2 _ _ _ _ _ _ _ _ _ _)
      | (with_reducible exact ih3 _ _ _ _ _ _ _ _ _ _ _ _)
      | (with_reducible exact spec_PartsOfNumber.mono _ _)
      | (with_reducible exact spec_RoundTo.mono _ _ _ _ _)
      | (with_reducible exact LeO.refl _)
      | (with_reducible exact LeO.none _)
      | (with_reducible refine LeO.ite ?_ ?_)
      | (with_reducible refine LeO.bind ?_ (fun _ => ?_))
      | exact ih0 _ _ _ _ _ _ _ _ _ _
      | exact ih1 _ _ _ _ _ _ _ _ _ _
      | exact ih2 _ _ _ _ _ _ _ _ _ _
      | exact ih3 _ _ _ _ _ _ _ _ _ _ _ _
      | exact spec_PartsOfNumber.mono _ _
      | exact spec_RoundTo.mono _ _ _ _ _
      | exact LeO.none _
      | refine LeO.ite ?_ ?_
      | refine LeO.bind ?_ (fun _ => ?_)
set_option maxHeartbeats 8000000 in
set_option maxRecDepth 100000 in
theorem spec_Rem.calls (k : Nat) (a0 : Int) (a1 : Int) (r : Int) (w : World) (h : spec_Rem.f k a0 a1 = some r) :
    Calls Try.prog 65 #[.int .u64 a0, .int .u64 a1] w fun e w' => e = .returned (.int .u64 r) ∧ Below w.heap.size w w' := by
  have hu34 := Try.underlying34
  have HB := Aside0.mk (Below.refl w.heap.size w)
  have H : ((spec_PartsOfNumber.f k a0).bind fun bt258 => ((spec_PartsOfNumber.f k a1).bind fun bt263 => (if bt258.1 = 1 then (spec_Rem.j0 k a0 true bt258.1 bt258.2.1 bt258.2.2.1 bt258.2.2.2 bt263.1 bt263.2.1 bt263.2.2.1 bt263.2.2.2) else (if bt263.1 = 1 then (spec_Rem.j0 k a0 true bt258.1 bt258.2.1 bt258.2.2.1 bt258.2.2.2 bt263.1 bt263.2.1 bt263.2.2.1 bt263.2.2.2) else (if bt258.1 = 2 then (spec_Rem.j0 k a0 true bt258.1 bt258.2.1 bt258.2.2.1 bt258.2.2.2 bt263.1 bt263.2.1 bt263.2.2.1 bt263.2.2.2) else (spec_Rem.j0 k a0 (bt263.1 == 3) bt258.1 bt258.2.1 bt258.2.2.1 bt258.2.2.2 bt263.1 bt263.2.1 bt263.2.2.1 bt263.2.2.2)))))) = some r := h
  clear h
  replace H := Option.bind_eq_some_iff.mp H
  obtain ⟨⟨t258, t259, t260, t261⟩, A30, H⟩ := H
  replace H : ((spec_PartsOfNumber.f k a1).bind fun bt263 => (if t258 = 1 then (spec_Rem.j0 k a0 true t258 t259 t260 t261 bt263.1 bt263.2.1 bt263.2.2.1 bt263.2.2.2) else (if bt263.1 = 1 then (spec_Rem.j0 k a0 true t258 t259 t260 t261 bt263.1 bt263.2.1 bt263.2.2.1 bt263.2.2.2) else (if t258 = 2 then (spec_Rem.j0 k a0 true t258 t259 t260 t261 bt263.1 bt263.2.1 bt263.2.2.1 bt263.2.2.2) else (spec_Rem.j0 k a0 (bt263.1 == 3) t258 t259 t260 t261 bt263.1 bt263.2.1 bt263.2.2.1 bt263.2.2.2))))) = some r := H
  have A3 := Aside0.mk A30
  clear A30
  replace H := Option.bind_eq_some_iff.mp H
  obtain ⟨⟨t263, t264, t265, t266⟩, A40, H⟩ := H
  replace H : (if t258 = 1 then (spec_Rem.j0 k a0 true t258 t259 t260 t261 t263 t264 t265 t266) else (if t263 = 1 then (spec_Rem.j0 k a0 true t258 t259 t260 t261 t263 t264 t265 t266) else (if t258 = 2 then (spec_Rem.j0 k a0 true t258 t259 t260 t261 t263 t264 t265 t266) else (spec_Rem.j0 k a0 (t263 == 3) t258 t259 t260 t261 t263 t264 t265 t266)))) = some r := H
  have A4 := Aside0.mk A40
  clear A40
  have HC5 := Aside0.mk H
  clear H
  go_enter Try.func65, Try.ntmps65
  go_upto_region 3 with (first | (go_at_call 16; (with_reducible refine (spec_PartsOfNumber.calls k a0 t258 t259 t260 t261 _ A3.out).mono ?_); rintro e w6 ⟨rfl, hb⟩; have n0_ := Aside0.mk (below_step (by repeat (first | (with_reducible first | exact HB.out | apply below_alloc | apply pw_below_drewN | apply below_drew1) | exact HB.out)) hb); clear HB; have HB := n0_; clear n0_; (try clear hb); (try clear hb2); (try clear hk); (try clear hi)) | ((with_reducible refine gate_dst (N := 5) rfl ?_); refine box_event ?hg (N := 5) ?hd (cs := #[.int .i64 0, .bool false, .int .u64 0, .int .i64 0]) (t := 34) ?hr ?_; (case hd => rfl); (case hg => rfl); (case hr => first | (go_simp; done) | (go_simp; rfl)); intro gb262 hg w7 hbox hb; have n0_ := Aside0.mk (below_step (by repeat (first | (with_reducible first | exact HB.out | apply below_alloc | apply pw_below_drewN | apply below_drew1) | exact HB.out)) hb); have n1_ := Aside0.mk (hbox); have n2_ := Aside0.mk ((by rw [hg]; exact (below_size (by repeat (first | (with_reducible first | exact HB.out | apply below_alloc | apply pw_below_drewN | apply below_drew1) | exact HB.out))) : w.heap.size ≤ gb262)); have n3_ := Aside0.mk ((by rw [hg]; exact (below_size (by repeat (first | (with_reducible first | exact HB.out | apply below_alloc | apply pw_below_drewN | apply below_drew1) | exact HB.out))) : w.heap.size ≤ gb262)); clear HB; have HB := n0_; have BK262 := n1_; have GW262 := n2_; have GE262 := n3_; clear n0_ n1_ n2_ n3_; clear hb hbox hg; have hcz8_0 : w7.cell? ⟨gb262, 0, none⟩ = some (.int .i64 0) := (blk_cell BK262.out 0).trans rfl; have hcz8_1 : w7.cell? ⟨gb262, 1, none⟩ = some (.bool false) := (blk_cell BK262.out 1).trans rfl; have hcz8_2 : w7.cell? ⟨gb262, 2, none⟩ = some (.int .u64 0) := (blk_cell BK262.out 2).trans rfl; have hcz8_3 : w7.cell? ⟨gb262, 3, none⟩ = some (.int .i64 0) := (blk_cell BK262.out 3).trans rfl; have hfz8_0 := blk_frozen BK262.out 0; have hfz8_1 := blk_frozen BK262.out 1; have hfz8_2 := blk_frozen BK262.out 2; have hfz8_3 := blk_frozen BK262.out 3) | (go_at_call 16; (with_reducible refine (spec_PartsOfNumber.calls k a1 t263 t264 t265 t266 _ A4.out).mono ?_); rintro e w9 ⟨rfl, hb⟩; have n0_ := Aside0.mk (blk_below (g := gb262) (o := .cells #[.int .i64 t258, .bool t259, .int .u64 t260, .int .i64 t261] 34 (0, 0)) (by (with_reducible repeat (first | refine blk_drewN ?_ _ | refine blk_drew ?_ | refine blk_alloc ?_ _)); refine blk_put (cs := #[.int .i64 t258, .bool t259, .int .u64 t260, .int .i64 0]) ?_ 3 _ rfl; (with_reducible repeat (first | refine blk_drewN ?_ _ | refine blk_drew ?_ | refine blk_alloc ?_ _)); refine blk_put (cs := #[.int .i64 t258, .bool t259, .int .u64 0, .int .i64 0]) ?_ 2 _ rfl; (with_reducible repeat (first | refine blk_drewN ?_ _ | refine blk_drew ?_ | refine blk_alloc ?_ _)); refine blk_put (cs := #[.int .i64 t258, .bool false, .int .u64 0, .int .i64 0]) ?_ 1 _ rfl; (with_reducible repeat (first | refine blk_drewN ?_ _ | refine blk_drew ?_ | refine blk_alloc ?_ _)); refine blk_put (cs := #[.int .i64 0, .bool false, .int .u64 0, .int .i64 0]) ?_ 0 _ rfl; (with_reducible repeat (first | refine blk_drewN ?_ _ | refine blk_drew ?_ | refine blk_alloc ?_ _)); exact BK262.out) hb); have n1_ := Aside0.mk (below_step (by repeat (first | (with_reducible first | exact HB.out | apply below_alloc | apply pw_below_drewN | apply below_drew1 | refine below_set ?_ GE262.out) | exact HB.out)) hb); clear BK262; clear HB; have BK262 := n0_; have HB := n1_; clear n0_ n1_; (try clear hb); (try clear hb2); (try clear hk); (try clear hi)) | ((with_reducible refine gate_dst (N := 6) rfl ?_); refine box_event ?hg (N := 6) ?hd (cs := #[.int .i64 0, .bool false, .int .u64 0, .int .i64 0]) (t := 34) ?hr ?_; (case hd => rfl); (case hg => rfl); (case hr => first | (go_simp; done) | (go_simp; rfl)); intro gb267 hg w10 hbox hb; have n0_ := Aside0.mk (blk_below (g := gb262) (o := .cells #[.int .i64 t258, .bool t259, .int .u64 t260, .int .i64 t261] 34 (0, 0)) (by (with_reducible repeat (first | refine blk_drewN ?_ _ | refine blk_drew ?_ | refine blk_alloc ?_ _)); exact BK262.out) hb); have n1_ := Aside0.mk (below_step (by repeat (first | (with_reducible first | exact HB.out | apply below_alloc | apply pw_below_drewN | apply below_drew1 | refine below_set ?_ GE262.out) | exact HB.out)) hb); have n2_ := Aside0.mk (hbox); have n3_ := Aside0.mk ((by rw [hg]; exact (below_size (by repeat (first | (with_reducible first | exact HB.out | apply below_alloc | apply pw_below_drewN | apply below_drew1 | refine below_set ?_ GE262.out) | exact HB.out))) : w.heap.size ≤ gb267)); have n4_ := Aside0.mk ((by rw [hg]; exact (below_size (by repeat (first | (with_reducible first | exact HB.out | apply below_alloc | apply pw_below_drewN | apply below_drew1 | refine below_set ?_ GE262.out) | exact HB.out))) : w.heap.size ≤ gb267)); have n5_ := Aside0.mk ((by rw [hg]; exact Nat.ne_of_lt (blk_lt (g := gb262) (o := .cells #[.int .i64 t258, .bool t259, .int .u64 t260, .int .i64 t261] 34 (0, 0)) (by (with_reducible repeat (first | refine blk_drewN ?_ _ | refine blk_drew ?_ | refine blk_alloc ?_ _)); exact BK262.out)) : gb262 ≠ gb267)); have n6_ := Aside0.mk ((by rw [hg]; exact Nat.ne_of_gt (blk_lt (g := gb262) (o := .cells #[.int .i64 t258, .bool t259, .int .u64 t260, .int .i64 t261] 34 (0, 0)) (by (with_reducible repeat (first | refine blk_drewN ?_ _ | refine blk_drew ?_ | refine blk_alloc ?_ _)); exact BK262.out)) : gb267 ≠ gb262)); clear BK262; clear HB; have BK262 := n0_; have HB := n1_; have BK267 := n2_; have GW267 := n3_; have GE267 := n4_; have NB262_267 := n5_; have NB267_262 := n6_; clear n0_ n1_ n2_ n3_ n4_ n5_ n6_; clear hb hbox hg; have hnb11 := NB267_262.out; have hnc11 := NB262_267.out; have hcz12_0 : w10.cell? ⟨gb267, 0, none⟩ = some (.int .i64 0) := (blk_cell BK267.out 0).trans rfl; have hcz12_1 : w10.cell? ⟨gb267, 1, none⟩ = some (.bool false) := (blk_cell BK267.out 1).trans rfl; have hcz12_2 : w10.cell? ⟨gb267, 2, none⟩ = some (.int .u64 0) := (blk_cell BK267.out 2).trans rfl; have hcz12_3 : w10.cell? ⟨gb267, 3, none⟩ = some (.int .i64 0) := (blk_cell BK267.out 3).trans rfl; have hfz12_0 := blk_frozen BK267.out 0; have hfz12_1 := blk_frozen BK267.out 1; have hfz12_2 := blk_frozen BK267.out 2; have hfz12_3 := blk_frozen BK267.out 3))
  repeat (go_quiet (first | (go_at_call 16; (with_reducible refine (spec_PartsOfNumber.calls k a0 t258 t259 t260 t261 _ A3.out).mono ?_); rintro e w6 ⟨rfl, hb⟩; have n0_ := Aside0.mk (below_step (by repeat (first | (with_reducible first | exact HB.out | apply below_alloc | apply pw_below_drewN | apply below_drew1) | exact HB.out)) hb); clear HB; have HB := n0_; clear n0_; (try clear hb); (try clear hb2); (try clear hk); (try clear hi)) | ((with_reducible refine gate_dst (N := 5) rfl ?_); refine box_event ?hg (N := 5) ?hd (cs := #[.int .i64 0, .bool false, .int .u64 0, .int .i64 0]) (t := 34) ?hr ?_; (case hd => rfl); (case hg => rfl); (case hr => first | (go_simp; done) | (go_simp; rfl)); intro gb262 hg w7 hbox hb; have n0_ := Aside0.mk (below_step (by repeat (first | (with_reducible first | exact HB.out | apply below_alloc | apply pw_below_drewN | apply below_drew1) | exact HB.out)) hb); have n1_ := Aside0.mk (hbox); have n2_ := Aside0.mk ((by rw [hg]; exact (below_size (by repeat (first | (with_reducible first | exact HB.out | apply below_alloc | apply pw_below_drewN | apply below_drew1) | exact HB.out))) : w.heap.size ≤ gb262)); have n3_ := Aside0.mk ((by rw [hg]; exact (below_size (by repeat (first | (with_reducible first | exact HB.out | apply below_alloc | apply pw_below_drewN | apply below_drew1) | exact HB.out))) : w.heap.size ≤ gb262)); clear HB; have HB := n0_; have BK262 := n1_; have GW262 := n2_; have GE262 := n3_; clear n0_ n1_ n2_ n3_; clear hb hbox hg; have hcz8_0 : w7.cell? ⟨gb262, 0, none⟩ = some (.int .i64 0) := (blk_cell BK262.out 0).trans rfl; have hcz8_1 : w7.cell? ⟨gb262, 1, none⟩ = some (.bool false) := (blk_cell BK262.out 1).trans rfl; have hcz8_2 : w7.cell? ⟨gb262, 2, none⟩ = some (.int .u64 0) := (blk_cell BK262.out 2).trans rfl; have hcz8_3 : w7.cell? ⟨gb262, 3, none⟩ = some (.int .i64 0) := (blk_cell BK262.out 3).trans rfl; have hfz8_0 := blk_frozen BK262.out 0; have hfz8_1 := blk_frozen BK262.out 1; have hfz8_2 := blk_frozen BK262.out 2; have hfz8_3 := blk_frozen BK262.out 3) | (go_at_call 16; (with_reducible refine (spec_PartsOfNumber.calls k a1 t263 t264 t265 t266 _ A4.out).mono ?_); rintro e w9 ⟨rfl, hb⟩; have n0_ := Aside0.mk (blk_below (g := gb262) (o := .cells #[.int .i64 t258, .bool t259, .int .u64 t260, .int .i64 t261] 34 (0, 0)) (by (with_reducible repeat (first | refine blk_drewN ?_ _ | refine blk_drew ?_ | refine blk_alloc ?_ _)); refine blk_put (cs := #[.int .i64 t258, .bool t259, .int .u64 t260, .int .i64 0]) ?_ 3 _ rfl; (with_reducible repeat (first | refine blk_drewN ?_ _ | refine blk_drew ?_ | refine blk_alloc ?_ _)); refine blk_put (cs := #[.int .i64 t258, .bool t259, .int .u64 0, .int .i64 0]) ?_ 2 _ rfl; (with_reducible repeat (first | refine blk_drewN ?_ _ | refine blk_drew ?_ | refine blk_alloc ?_ _)); refine blk_put (cs := #[.int .i64 t258, .bool false, .int .u64 0, .int .i64 0]) ?_ 1 _ rfl; (with_reducible repeat (first | refine blk_drewN ?_ _ | refine blk_drew ?_ | refine blk_alloc ?_ _)); refine blk_put (cs := #[.int .i64 0, .bool false, .int .u64 0, .int .i64 0]) ?_ 0 _ rfl; (with_reducible repeat (first | refine blk_drewN ?_ _ | refine blk_drew ?_ | refine blk_alloc ?_ _)); exact BK262.out) hb); have n1_ := Aside0.mk (below_step (by repeat (first | (with_reducible first | exact HB.out | apply below_alloc | apply pw_below_drewN | apply below_drew1 | refine below_set ?_ GE262.out) | exact HB.out)) hb); clear BK262; clear HB; have BK262 := n0_; have HB := n1_; clear n0_ n1_; (try clear hb); (try clear hb2); (try clear hk); (try clear hi)) | ((with_reducible refine gate_dst (N := 6) rfl ?_); refine box_event ?hg (N := 6) ?hd (cs := #[.int .i64 0, .bool false, .int .u64 0, .int .i64 0]) (t := 34) ?hr ?_; (case hd => rfl); (case hg => rfl); (case hr => first | (go_simp; done) | (go_simp; rfl)); intro gb267 hg w10 hbox hb; have n0_ := Aside0.mk (blk_below (g := gb262) (o := .cells #[.int .i64 t258, .bool t259, .int .u64 t260, .int .i64 t261] 34 (0, 0)) (by (with_reducible repeat (first | refine blk_drewN ?_ _ | refine blk_drew ?_ | refine blk_alloc ?_ _)); exact BK262.out) hb); have n1_ := Aside0.mk (below_step (by repeat (first | (with_reducible first | exact HB.out | apply below_alloc | apply pw_below_drewN | apply below_drew1 | refine below_set ?_ GE262.out) | exact HB.out)) hb); have n2_ := Aside0.mk (hbox); have n3_ := Aside0.mk ((by rw [hg]; exact (below_size (by repeat (first | (with_reducible first | exact HB.out | apply below_alloc | apply pw_below_drewN | apply below_drew1 | refine below_set ?_ GE262.out) | exact HB.out))) : w.heap.size ≤ gb267)); have n4_ := Aside0.mk ((by rw [hg]; exact (below_size (by repeat (first | (with_reducible first | exact HB.out | apply below_alloc | apply pw_below_drewN | apply below_drew1 | refine below_set ?_ GE262.out) | exact HB.out))) : w.heap.size ≤ gb267)); have n5_ := Aside0.mk ((by rw [hg]; exact Nat.ne_of_lt (blk_lt (g := gb262) (o := .cells #[.int .i64 t258, .bool t259, .int .u64 t260, .int .i64 t261] 34 (0, 0)) (by (with_reducible repeat (first | refine blk_drewN ?_ _ | refine blk_drew ?_ | refine blk_alloc ?_ _)); exact BK262.out)) : gb262 ≠ gb267)); have n6_ := Aside0.mk ((by rw [hg]; exact Nat.ne_of_gt (blk_lt (g := gb262) (o := .cells #[.int .i64 t258, .bool t259, .int .u64 t260, .int .i64 t261] 34 (0, 0)) (by (with_reducible repeat (first | refine blk_drewN ?_ _ | refine blk_drew ?_ | refine blk_alloc ?_ _)); exact BK262.out)) : gb267 ≠ gb262)); clear BK262; clear HB; have BK262 := n0_; have HB := n1_; have BK267 := n2_; have GW267 := n3_; have GE267 := n4_; have NB262_267 := n5_; have NB267_262 := n6_; clear n0_ n1_ n2_ n3_ n4_ n5_ n6_; clear hb hbox hg; have hnb11 := NB267_262.out; have hnc11 := NB262_267.out; have hcz12_0 : w10.cell? ⟨gb267, 0, none⟩ = some (.int .i64 0) := (blk_cell BK267.out 0).trans rfl; have hcz12_1 : w10.cell? ⟨gb267, 1, none⟩ = some (.bool false) := (blk_cell BK267.out 1).trans rfl; have hcz12_2 : w10.cell? ⟨gb267, 2, none⟩ = some (.int .u64 0) := (blk_cell BK267.out 2).trans rfl; have hcz12_3 : w10.cell? ⟨gb267, 3, none⟩ = some (.int .i64 0) := (blk_cell BK267.out 3).trans rfl; have hfz12_0 := blk_frozen BK267.out 0; have hfz12_1 := blk_frozen BK267.out 1; have hfz12_2 := blk_frozen BK267.out 2; have hfz12_3 := blk_frozen BK267.out 3)); go_upto_region 3 with (first | (go_at_call 16; (with_reducible refine (spec_PartsOfNumber.calls k a0 t258 t259 t260 t261 _ A3.out).mono ?_); rintro e w6 ⟨rfl, hb⟩; have n0_ := Aside0.mk (below_step (by repeat (first | (with_reducible first | exact HB.out | apply below_alloc | apply pw_below_drewN | apply below_drew1) | exact HB.out)) hb); clear HB; have HB := n0_; clear n0_; (try clear hb); (try clear hb2); (try clear hk); (try clear hi)) | ((with_reducible refine gate_dst (N := 5) rfl ?_); refine box_event ?hg (N := 5) ?hd (cs := #[.int .i64 0, .bool false, .int .u64 0, .int .i64 0]) (t := 34) ?hr ?_; (case hd => rfl); (case hg => rfl); (case hr => first | (go_simp; done) | (go_simp; rfl)); intro gb262 hg w7 hbox hb; have n0_ := Aside0.mk (below_step (by repeat (first | (with_reducible first | exact HB.out | apply below_alloc | apply pw_below_drewN | apply below_drew1) | exact HB.out)) hb); have n1_ := Aside0.mk (hbox); have n2_ := Aside0.mk ((by rw [hg]; exact (below_size (by repeat (first | (with_reducible first | exact HB.out | apply below_alloc | apply pw_below_drewN | apply below_drew1) | exact HB.out))) : w.heap.size ≤ gb262)); have n3_ := Aside0.mk ((by rw [hg]; exact (below_size (by repeat (first | (with_reducible first | exact HB.out | apply below_alloc | apply pw_below_drewN | apply below_drew1) | exact HB.out))) : w.heap.size ≤ gb262)); clear HB; have HB := n0_; have BK262 := n1_; have GW262 := n2_; have GE262 := n3_; clear n0_ n1_ n2_ n3_; clear hb hbox hg; have hcz8_0 : w7.cell? ⟨gb262, 0, none⟩ = some (.int .i64 0) := (blk_cell BK262.out 0).trans rfl; have hcz8_1 : w7.cell? ⟨gb262, 1, none⟩ = some (.bool false) := (blk_cell BK262.out 1).trans rfl; have hcz8_2 : w7.cell? ⟨gb262, 2, none⟩ = some (.int .u64 0) := (blk_cell BK262.out 2).trans rfl; have hcz8_3 : w7.cell? ⟨gb262, 3, none⟩ = some (.int .i64 0) := (blk_cell BK262.out 3).trans rfl; have hfz8_0 := blk_frozen BK262.out 0; have hfz8_1 := blk_frozen BK262.out 1; have hfz8_2 := blk_frozen BK262.out 2; have hfz8_3 := blk_frozen BK262.out 3) | (go_at_call 16; (with_reducible refine (spec_PartsOfNumber.calls k a1 t263 t264 t265 t266 _ A4.out).mono ?_); rintro e w9 ⟨rfl, hb⟩; have n0_ := Aside0.mk (blk_below (g := gb262) (o := .cells #[.int .i64 t258, .bool t259, .int .u64 t260, .int .i64 t261] 34 (0, 0)) (by (with_reducible repeat (first | refine blk_drewN ?_ _ | refine blk_drew ?_ | refine blk_alloc ?_ _)); refine blk_put (cs := #[.int .i64 t258, .bool t259, .int .u64 t260, .int .i64 0]) ?_ 3 _ rfl; (with_reducible repeat (first | refine blk_drewN ?_ _ | refine blk_drew ?_ | refine blk_alloc ?_ _)); refine blk_put (cs := #[.int .i64 t258, .bool t259, .int .u64 0, .int .i64 0]) ?_ 2 _ rfl; (with_reducible repeat (first | refine blk_drewN ?_ _ | refine blk_drew ?_ | refine blk_alloc ?_ _)); refine blk_put (cs := #[.int .i64 t258, .bool false, .int .u64 0, .int .i64 0]) ?_ 1 _ rfl; (with_reducible repeat (first | refine blk_drewN ?_ _ | refine blk_drew ?_ | refine blk_alloc ?_ _)); refine blk_put (cs := #[.int .i64 0, .bool false, .int .u64 0, .int .i64 0]) ?_ 0 _ rfl; (with_reducible repeat (first | refine blk_drewN ?_ _ | refine blk_drew ?_ | refine blk_alloc ?_ _)); exact BK262.out) hb); have n1_ := Aside0.mk (below_step (by repeat (first | (with_reducible first | exact HB.out | apply below_alloc | apply pw_below_drewN | apply below_drew1 | refine below_set ?_ GE262.out) | exact HB.out)) hb); clear BK262; clear HB; have BK262 := n0_; have HB := n1_; clear n0_ n1_; (try clear hb); (try clear hb2); (try clear hk); (try clear hi)) | ((with_reducible refine gate_dst (N := 6) rfl ?_); refine box_event ?hg (N := 6) ?hd (cs := #[.int .i64 0, .bool false, .int .u64 0, .int .i64 0]) (t := 34) ?hr ?_; (case hd => rfl); (case hg => rfl); (case hr => first | (go_simp; done) | (go_simp; rfl)); intro gb267 hg w10 hbox hb; have n0_ := Aside0.mk (blk_below (g := gb262) (o := .cells #[.int .i64 t258, .bool t259, .int .u64 t260, .int .i64 t261] 34 (0, 0)) (by (with_reducible repeat (first | refine blk_drewN ?_ _ | refine blk_drew ?_ | refine blk_alloc ?_ _)); exact BK262.out) hb); have n1_ := Aside0.mk (below_step (by repeat (first | (with_reducible first | exact HB.out | apply below_alloc | apply pw_below_drewN | apply below_drew1 | refine below_set ?_ GE262.out) | exact HB.out)) hb); have n2_ := Aside0.mk (hbox); have n3_ := Aside0.mk ((by rw [hg]; exact (below_size (by repeat (first | (with_reducible first | exact HB.out | apply below_alloc | apply pw_below_drewN | apply below_drew1 | refine below_set ?_ GE262.out) | exact HB.out))) : w.heap.size ≤ gb267)); have n4_ := Aside0.mk ((by rw [hg]; exact (below_size (by repeat (first | (with_reducible first | exact HB.out | apply below_alloc | apply pw_below_drewN | apply below_drew1 | refine below_set ?_ GE262.out) | exact HB.out))) : w.heap.size ≤ gb267)); have n5_ := Aside0.mk ((by rw [hg]; exact Nat.ne_of_lt (blk_lt (g := gb262) (o := .cells #[.int .i64 t258, .bool t259, .int .u64 t260, .int .i64 t261] 34 (0, 0)) (by (with_reducible repeat (first | refine blk_drewN ?_ _ | refine blk_drew ?_ | refine blk_alloc ?_ _)); exact BK262.out)) : gb262 ≠ gb267)); have n6_ := Aside0.mk ((by rw [hg]; exact Nat.ne_of_gt (blk_lt (g := gb262) (o := .cells #[.int .i64 t258, .bool t259, .int .u64 t260, .int .i64 t261] 34 (0, 0)) (by (with_reducible repeat (first | refine blk_drewN ?_ _ | refine blk_drew ?_ | refine blk_alloc ?_ _)); exact BK262.out)) : gb267 ≠ gb262)); clear BK262; clear HB; have BK262 := n0_; have HB := n1_; have BK267 := n2_; have GW267 := n3_; have GE267 := n4_; have NB262_267 := n5_; have NB267_262 := n6_; clear n0_ n1_ n2_ n3_ n4_ n5_ n6_; clear hb hbox hg; have hnb11 := NB267_262.out; have hnc11 := NB262_267.out; have hcz12_0 : w10.cell? ⟨gb267, 0, none⟩ = some (.int .i64 0) := (blk_cell BK267.out 0).trans rfl; have hcz12_1 : w10.cell? ⟨gb267, 1, none⟩ = some (.bool false) := (blk_cell BK267.out 1).trans rfl; have hcz12_2 : w10.cell? ⟨gb267, 2, none⟩ = some (.int .u64 0) := (blk_cell BK267.out 2).trans rfl; have hcz12_3 : w10.cell? ⟨gb267, 3, none⟩ = some (.int .i64 0) := (blk_cell BK267.out 3).trans rfl; have hfz12_0 := blk_frozen BK267.out 0; have hfz12_1 := blk_frozen BK267.out 1; have hfz12_2 := blk_frozen BK267.out 2; have hfz12_3 := blk_frozen BK267.out 3)))
  (try simp only [Act.put, List.setIfInBounds_toArray, List.set_cons_zero, List.set_cons_succ])
  go_cut [32] (fun v32 wc => ∃ (kq : Nat) (x32_4 : Bool), v32 = .bool x32_4 ∧ Aside0 (spec_Rem.j0 kq a0 x32_4 t258 t259 t260 t261 t263 t264 t265 t266 = some r) ∧ Aside0 (kq ≤ k) ∧ Aside0 (wc.heap[gb262]? = some (.cells #[.int .i64 t258, .bool t259, .int .u64 t260, .int .i64 t261] 34 (0, 0))) ∧ Aside0 (wc.heap[gb267]? = some (.cells #[.int .i64 t263, .bool t264, .int .u64 t265, .int .i64 t266] 34 (0, 0))) ∧ Aside0 (Below w.heap.size w wc))
  case first =>
    have H := HC5.out
    clear HC5
    by_cases c13 : t258 = 1
    · rw [if_pos c13] at H
      have c13b0 : (t258 == 1) = true := beq_iff_eq.mpr c13
      have c13b1 : (t258 != 1) = false := bne_eq_false_iff_eq.mpr c13
      clear c13
      (first | rw [c13b0] | (simp only [i64_w, i32_w]; rw [c13b0]) | skip)
      have H' := Aside0.mk H
      clear H
      have hnb14 := NB262_267.out
      have hnc14 := NB267_262.out
      have hcz15_0 : w10.cell? ⟨gb262, 0, none⟩ = some (.int .i64 t258) := (blk_cell BK262.out 0).trans rfl
      have hcz15_1 : w10.cell? ⟨gb262, 1, none⟩ = some (.bool t259) := (blk_cell BK262.out 1).trans rfl
      have hcz15_2 : w10.cell? ⟨gb262, 2, none⟩ = some (.int .u64 t260) := (blk_cell BK262.out 2).trans rfl
      have hcz15_3 : w10.cell? ⟨gb262, 3, none⟩ = some (.int .i64 t261) := (blk_cell BK262.out 3).trans rfl
      have hfz15_0 := blk_frozen BK262.out 0
      have hfz15_1 := blk_frozen BK262.out 1
      have hfz15_2 := blk_frozen BK262.out 2
      have hfz15_3 := blk_frozen BK262.out 3
      go_wp2
      repeat (go_quiet (fail); try go_wp2)
      go_meet
      case rel => exact ⟨_, (true), (by first | rfl | (simp; done) | (simp [*]; done)), H', ⟨by first | omega | exact Nat.le_refl _⟩, ⟨by (with_reducible repeat (first | refine blk_drewN ?_ _ | refine blk_drew ?_ | refine blk_alloc ?_ _)); refine blk_far ?_ NB262_267.out _; (with_reducible repeat (first | refine blk_drewN ?_ _ | refine blk_drew ?_ | refine blk_alloc ?_ _)); refine blk_far ?_ NB262_267.out _; (with_reducible repeat (first | refine blk_drewN ?_ _ | refine blk_drew ?_ | refine blk_alloc ?_ _)); refine blk_far ?_ NB262_267.out _; (with_reducible repeat (first | refine blk_drewN ?_ _ | refine blk_drew ?_ | refine blk_alloc ?_ _)); refine blk_far ?_ NB262_267.out _; (with_reducible repeat (first | refine blk_drewN ?_ _ | refine blk_drew ?_ | refine blk_alloc ?_ _)); exact BK262.out⟩, ⟨by (with_reducible repeat (first | refine blk_drewN ?_ _ | refine blk_drew ?_ | refine blk_alloc ?_ _)); refine blk_put (cs := #[.int .i64 t263, .bool t264, .int .u64 t265, .int .i64 0]) ?_ 3 _ rfl; (with_reducible repeat (first | refine blk_drewN ?_ _ | refine blk_drew ?_ | refine blk_alloc ?_ _)); refine blk_put (cs := #[.int .i64 t263, .bool t264, .int .u64 0, .int .i64 0]) ?_ 2 _ rfl; (with_reducible repeat (first | refine blk_drewN ?_ _ | refine blk_drew ?_ | refine blk_alloc ?_ _)); refine blk_put (cs := #[.int .i64 t263, .bool false, .int .u64 0, .int .i64 0]) ?_ 1 _ rfl; (with_reducible repeat (first | refine blk_drewN ?_ _ | refine blk_drew ?_ | refine blk_alloc ?_ _)); refine blk_put (cs := #[.int .i64 0, .bool false, .int .u64 0, .int .i64 0]) ?_ 0 _ rfl; (with_reducible repeat (first | refine blk_drewN ?_ _ | refine blk_drew ?_ | refine blk_alloc ?_ _)); exact BK267.out⟩, ⟨by repeat (first | (with_reducible first | exact HB.out | apply below_alloc | apply pw_below_drewN | apply below_drew1 | refine below_set ?_ GE262.out | refine below_set ?_ GE267.out) | exact HB.out)⟩⟩
    · rw [if_neg c13] at H
      have c13b0 : (t258 == 1) = false := beq_eq_false_iff_ne.mpr c13
      have c13b1 : (t258 != 1) = true := bne_iff_ne.mpr c13
      (first | rw [c13b0] | (simp only [i64_w, i32_w]; rw [c13b0]) | skip)
      by_cases c16 : t263 = 1
      · rw [if_pos c16] at H
        have c16b0 : (t263 == 1) = true := beq_iff_eq.mpr c16
        have c16b1 : (t263 != 1) = false := bne_eq_false_iff_eq.mpr c16
        clear c16
        have H' := Aside0.mk H
        clear H
        have hnb17 := NB262_267.out
        have hnc17 := NB267_262.out
        have hcz18_0 : w10.cell? ⟨gb262, 0, none⟩ = some (.int .i64 t258) := (blk_cell BK262.out 0).trans rfl
        have hcz18_1 : w10.cell? ⟨gb262, 1, none⟩ = some (.bool t259) := (blk_cell BK262.out 1).trans rfl
        have hcz18_2 : w10.cell? ⟨gb262, 2, none⟩ = some (.int .u64 t260) := (blk_cell BK262.out 2).trans rfl
        have hcz18_3 : w10.cell? ⟨gb262, 3, none⟩ = some (.int .i64 t261) := (blk_cell BK262.out 3).trans rfl
        have hfz18_0 := blk_frozen BK262.out 0
        have hfz18_1 := blk_frozen BK262.out 1
        have hfz18_2 := blk_frozen BK262.out 2
        have hfz18_3 := blk_frozen BK262.out 3
        have hcz19_0 : w10.cell? ⟨gb267, 0, none⟩ = some (.int .i64 0) := (blk_cell BK267.out 0).trans rfl
        have hcz19_1 : w10.cell? ⟨gb267, 1, none⟩ = some (.bool false) := (blk_cell BK267.out 1).trans rfl
        have hcz19_2 : w10.cell? ⟨gb267, 2, none⟩ = some (.int .u64 0) := (blk_cell BK267.out 2).trans rfl
        have hcz19_3 : w10.cell? ⟨gb267, 3, none⟩ = some (.int .i64 0) := (blk_cell BK267.out 3).trans rfl
        have hfz19_0 := blk_frozen BK267.out 0
        have hfz19_1 := blk_frozen BK267.out 1
        have hfz19_2 := blk_frozen BK267.out 2
        have hfz19_3 := blk_frozen BK267.out 3
        go_wp2
        repeat (go_quiet (fail); try go_wp2)
        go_meet
        case rel => exact ⟨_, (true), (by first | rfl | (simp; done) | (simp [*]; done)), H', ⟨by first | omega | exact Nat.le_refl _⟩, ⟨by (with_reducible repeat (first | refine blk_drewN ?_ _ | refine blk_drew ?_ | refine blk_alloc ?_ _)); refine blk_far ?_ NB262_267.out _; (with_reducible repeat (first | refine blk_drewN ?_ _ | refine blk_drew ?_ | refine blk_alloc ?_ _)); refine blk_far ?_ NB262_267.out _; (with_reducible repeat (first | refine blk_drewN ?_ _ | refine blk_drew ?_ | refine blk_alloc ?_ _)); refine blk_far ?_ NB262_267.out _; (with_reducible repeat (first | refine blk_drewN ?_ _ | refine blk_drew ?_ | refine blk_alloc ?_ _)); refine blk_far ?_ NB262_267.out _; (with_reducible repeat (first | refine blk_drewN ?_ _ | refine blk_drew ?_ | refine blk_alloc ?_ _)); exact BK262.out⟩, ⟨by (with_reducible repeat (first | refine blk_drewN ?_ _ | refine blk_drew ?_ | refine blk_alloc ?_ _)); refine blk_put (cs := #[.int .i64 t263, .bool t264, .int .u64 t265, .int .i64 0]) ?_ 3 _ rfl; (with_reducible repeat (first | refine blk_drewN ?_ _ | refine blk_drew ?_ | refine blk_alloc ?_ _)); refine blk_put (cs := #[.int .i64 t263, .bool t264, .int .u64 0, .int .i64 0]) ?_ 2 _ rfl; (with_reducible repeat (first | refine blk_drewN ?_ _ | refine blk_drew ?_ | refine blk_alloc ?_ _)); refine blk_put (cs := #[.int .i64 t263, .bool false, .int .u64 0, .int .i64 0]) ?_ 1 _ rfl; (with_reducible repeat (first | refine blk_drewN ?_ _ | refine blk_drew ?_ | refine blk_alloc ?_ _)); refine blk_put (cs := #[.int .i64 0, .bool false, .int .u64 0, .int .i64 0]) ?_ 0 _ rfl; (with_reducible repeat (first | refine blk_drewN ?_ _ | refine blk_drew ?_ | refine blk_alloc ?_ _)); exact BK267.out⟩, ⟨by repeat (first | (with_reducible first | exact HB.out | apply below_alloc | apply pw_below_drewN | apply below_drew1 | refine below_set ?_ GE262.out | refine below_set ?_ GE267.out) | exact HB.out)⟩⟩
      · rw [if_neg c16] at H
        have c16b0 : (t263 == 1) = false := beq_eq_false_iff_ne.mpr c16
        have c16b1 : (t263 != 1) = true := bne_iff_ne.mpr c16
        by_cases c20 : t258 = 2
        · rw [if_pos c20] at H
          have c20b0 : (t258 == 2) = true := beq_iff_eq.mpr c20
          have c20b1 : (t258 != 2) = false := bne_eq_false_iff_eq.mpr c20
          clear c20
          have H' := Aside0.mk H
          clear H
          have hnb21 := NB262_267.out
          have hnc21 := NB267_262.out
          have hcz22_0 : w10.cell? ⟨gb262, 0, none⟩ = some (.int .i64 t258) := (blk_cell BK262.out 0).trans rfl
          have hcz22_1 : w10.cell? ⟨gb262, 1, none⟩ = some (.bool t259) := (blk_cell BK262.out 1).trans rfl
          have hcz22_2 : w10.cell? ⟨gb262, 2, none⟩ = some (.int .u64 t260) := (blk_cell BK262.out 2).trans rfl
          have hcz22_3 : w10.cell? ⟨gb262, 3, none⟩ = some (.int .i64 t261) := (blk_cell BK262.out 3).trans rfl
          have hfz22_0 := blk_frozen BK262.out 0
          have hfz22_1 := blk_frozen BK262.out 1
          have hfz22_2 := blk_frozen BK262.out 2
          have hfz22_3 := blk_frozen BK262.out 3
          have hcz23_0 : w10.cell? ⟨gb267, 0, none⟩ = some (.int .i64 0) := (blk_cell BK267.out 0).trans rfl
          have hcz23_1 : w10.cell? ⟨gb267, 1, none⟩ = some (.bool false) := (blk_cell BK267.out 1).trans rfl
          have hcz23_2 : w10.cell? ⟨gb267, 2, none⟩ = some (.int .u64 0) := (blk_cell BK267.out 2).trans rfl
          have hcz23_3 : w10.cell? ⟨gb267, 3, none⟩ = some (.int .i64 0) := (blk_cell BK267.out 3).trans rfl
          have hfz23_0 := blk_frozen BK267.out 0
          have hfz23_1 := blk_frozen BK267.out 1
          have hfz23_2 := blk_frozen BK267.out 2
          have hfz23_3 := blk_frozen BK267.out 3
          go_wp2
          repeat (go_quiet (fail); try go_wp2)
          go_meet
          case rel => exact ⟨_, (true), (by first | rfl | (simp; done) | (simp [*]; done)), H', ⟨by first | omega | exact Nat.le_refl _⟩, ⟨by (with_reducible repeat (first | refine blk_drewN ?_ _ | refine blk_drew ?_ | refine blk_alloc ?_ _)); refine blk_far ?_ NB262_267.out _; (with_reducible repeat (first | refine blk_drewN ?_ _ | refine blk_drew ?_ | refine blk_alloc ?_ _)); refine blk_far ?_ NB262_267.out _; (with_reducible repeat (first | refine blk_drewN ?_ _ | refine blk_drew ?_ | refine blk_alloc ?_ _)); refine blk_far ?_ NB262_267.out _; (with_reducible repeat (first | refine blk_drewN ?_ _ | refine blk_drew ?_ | refine blk_alloc ?_ _)); refine blk_far ?_ NB262_267.out _; (with_reducible repeat (first | refine blk_drewN ?_ _ | refine blk_drew ?_ | refine blk_alloc ?_ _)); exact BK262.out⟩, ⟨by (with_reducible repeat (first | refine blk_drewN ?_ _ | refine blk_drew ?_ | refine blk_alloc ?_ _)); refine blk_put (cs := #[.int .i64 t263, .bool t264, .int .u64 t265, .int .i64 0]) ?_ 3 _ rfl; (with_reducible repeat (first | refine blk_drewN ?_ _ | refine blk_drew ?_ | refine blk_alloc ?_ _)); refine blk_put (cs := #[.int .i64 t263, .bool t264, .int .u64 0, .int .i64 0]) ?_ 2 _ rfl; (with_reducible repeat (first | refine blk_drewN ?_ _ | refine blk_drew ?_ | refine blk_alloc ?_ _)); refine blk_put (cs := #[.int .i64 t263, .bool false, .int .u64 0, .int .i64 0]) ?_ 1 _ rfl; (with_reducible repeat (first | refine blk_drewN ?_ _ | refine blk_drew ?_ | refine blk_alloc ?_ _)); refine blk_put (cs := #[.int .i64 0, .bool false, .int .u64 0, .int .i64 0]) ?_ 0 _ rfl; (with_reducible repeat (first | refine blk_drewN ?_ _ | refine blk_drew ?_ | refine blk_alloc ?_ _)); exact BK267.out⟩, ⟨by repeat (first | (with_reducible first | exact HB.out | apply below_alloc | apply pw_below_drewN | apply below_drew1 | refine below_set ?_ GE262.out | refine below_set ?_ GE267.out) | exact HB.out)⟩⟩
        · rw [if_neg c20] at H
          have c20b0 : (t258 == 2) = false := beq_eq_false_iff_ne.mpr c20
          have c20b1 : (t258 != 2) = true := bne_iff_ne.mpr c20
          have H' := Aside0.mk H
          clear H
          have hnb24 := NB262_267.out
          have hnc24 := NB267_262.out
          have hcz25_0 : w10.cell? ⟨gb262, 0, none⟩ = some (.int .i64 t258) := (blk_cell BK262.out 0).trans rfl
          have hcz25_1 : w10.cell? ⟨gb262, 1, none⟩ = some (.bool t259) := (blk_cell BK262.out 1).trans rfl
          have hcz25_2 : w10.cell? ⟨gb262, 2, none⟩ = some (.int .u64 t260) := (blk_cell BK262.out 2).trans rfl
          have hcz25_3 : w10.cell? ⟨gb262, 3, none⟩ = some (.int .i64 t261) := (blk_cell BK262.out 3).trans rfl
          have hfz25_0 := blk_frozen BK262.out 0
          have hfz25_1 := blk_frozen BK262.out 1
          have hfz25_2 := blk_frozen BK262.out 2
          have hfz25_3 := blk_frozen BK262.out 3
          have hcz26_0 : w10.cell? ⟨gb267, 0, none⟩ = some (.int .i64 0) := (blk_cell BK267.out 0).trans rfl
          have hcz26_1 : w10.cell? ⟨gb267, 1, none⟩ = some (.bool false) := (blk_cell BK267.out 1).trans rfl
          have hcz26_2 : w10.cell? ⟨gb267, 2, none⟩ = some (.int .u64 0) := (blk_cell BK267.out 2).trans rfl
          have hcz26_3 : w10.cell? ⟨gb267, 3, none⟩ = some (.int .i64 0) := (blk_cell BK267.out 3).trans rfl
          have hfz26_0 := blk_frozen BK267.out 0
          have hfz26_1 := blk_frozen BK267.out 1
          have hfz26_2 := blk_frozen BK267.out 2
          have hfz26_3 := blk_frozen BK267.out 3
          go_wp2
          repeat (go_quiet (fail); try go_wp2)
          go_meet
          case rel => exact ⟨_, ((t263 == 3)), (by first | rfl | (simp; done) | (simp [*]; done)), H', ⟨by first | omega | exact Nat.le_refl _⟩, ⟨by (with_reducible repeat (first | refine blk_drewN ?_ _ | refine blk_drew ?_ | refine blk_alloc ?_ _)); refine blk_far ?_ NB262_267.out _; (with_reducible repeat (first | refine blk_drewN ?_ _ | refine blk_drew ?_ | refine blk_alloc ?_ _)); refine blk_far ?_ NB262_267.out _; (with_reducible repeat (first | refine blk_drewN ?_ _ | refine blk_drew ?_ | refine blk_alloc ?_ _)); refine blk_far ?_ NB262_267.out _; (with_reducible repeat (first | refine blk_drewN ?_ _ | refine blk_drew ?_ | refine blk_alloc ?_ _)); refine blk_far ?_ NB262_267.out _; (with_reducible repeat (first | refine blk_drewN ?_ _ | refine blk_drew ?_ | refine blk_alloc ?_ _)); exact BK262.out⟩, ⟨by (with_reducible repeat (first | refine blk_drewN ?_ _ | refine blk_drew ?_ | refine blk_alloc ?_ _)); refine blk_put (cs := #[.int .i64 t263, .bool t264, .int .u64 t265, .int .i64 0]) ?_ 3 _ rfl; (with_reducible repeat (first | refine blk_drewN ?_ _ | refine blk_drew ?_ | refine blk_alloc ?_ _)); refine blk_put (cs := #[.int .i64 t263, .bool t264, .int .u64 0, .int .i64 0]) ?_ 2 _ rfl; (with_reducible repeat (first | refine blk_drewN ?_ _ | refine blk_drew ?_ | refine blk_alloc ?_ _)); refine blk_put (cs := #[.int .i64 t263, .bool false, .int .u64 0, .int .i64 0]) ?_ 1 _ rfl; (with_reducible repeat (first | refine blk_drewN ?_ _ | refine blk_drew ?_ | refine blk_alloc ?_ _)); refine blk_put (cs := #[.int .i64 0, .bool false, .int .u64 0, .int .i64 0]) ?_ 0 _ rfl; (with_reducible repeat (first | refine blk_drewN ?_ _ | refine blk_drew ?_ | refine blk_alloc ?_ _)); exact BK267.out⟩, ⟨by repeat (first | (with_reducible first | exact HB.out | apply below_alloc | apply pw_below_drewN | apply below_drew1 | refine below_set ?_ GE262.out | refine below_set ?_ GE267.out) | exact HB.out)⟩⟩
  case rest =>
    clear HC5
    try clear c1
    try clear c2
    try clear p2
    try clear c6
    try clear c11
    try clear c13
    try clear c13b0
    try clear c13b1
    try clear c14
    try clear c16
    try clear c16b0
    try clear c16b1
    try clear c17
    try clear c20
    try clear c20b0
    try clear c20b1
    try clear c21
    try clear c24
    try clear hcz12_0
    try clear hcz12_1
    try clear hcz12_2
    try clear hcz12_3
    try clear hcz15_0
    try clear hcz15_1
    try clear hcz15_2
    try clear hcz15_3
    try clear hcz18_0
    try clear hcz18_1
    try clear hcz18_2
    try clear hcz18_3
    try clear hcz19_0
    try clear hcz19_1
    try clear hcz19_2
    try clear hcz19_3
    try clear hcz22_0
    try clear hcz22_1
    try clear hcz22_2
    try clear hcz22_3
    try clear hcz23_0
    try clear hcz23_1
    try clear hcz23_2
    try clear hcz23_3
    try clear hcz25_0
    try clear hcz25_1
    try clear hcz25_2
    try clear hcz25_3
    try clear hcz26_0
    try clear hcz26_1
    try clear hcz26_2
    try clear hcz26_3
    try clear hcz8_0
    try clear hcz8_1
    try clear hcz8_2
    try clear hcz8_3
    try clear hfz12_0
    try clear hfz12_1
    try clear hfz12_2
    try clear hfz12_3
    try clear hfz15_0
    try clear hfz15_1
    try clear hfz15_2
    try clear hfz15_3
    try clear hfz18_0
    try clear hfz18_1
    try clear hfz18_2
    try clear hfz18_3
    try clear hfz19_0
    try clear hfz19_1
    try clear hfz19_2
    try clear hfz19_3
    try clear hfz22_0
    try clear hfz22_1
    try clear hfz22_2
    try clear hfz22_3
    try clear hfz23_0
    try clear hfz23_1
    try clear hfz23_2
    try clear hfz23_3
    try clear hfz25_0
    try clear hfz25_1
    try clear hfz25_2
    try clear hfz25_3
    try clear hfz26_0
    try clear hfz26_1
    try clear hfz26_2
    try clear hfz26_3
    try clear hfz8_0
    try clear hfz8_1
    try clear hfz8_2
    try clear hfz8_3
    obtain ⟨kq, x32_4, rfl, HA, HJ4, BK262, BK267, HB⟩ := hcut
    cases kq with
    | zero => exact absurd HA.out (by simp [spec_Rem.j0])
    | succ kj4 =>
      have H := HA.out
      clear HA
      simp only [spec_Rem.j0] at H
      by_cases c27 : x32_4 = true
      · subst c27
        have H1 : (some 9221120237041090560) = some r := by rw [if_pos rfl] at H; exact H
        clear H
        have H := H1
        clear H1
        obtain rfl := Option.some.inj H
        go_wp2
        repeat (go_quiet (fail); try go_wp2)
        go_ret
        exact ⟨by first | rfl | (simp; done) | (simp [errW_none, errW_some] <;> rfl) | (simp [*, errW_none, errW_some] <;> rfl) | (simp [bne, List.isEmpty_iff]; done) | (rw [Bool.eq_iff_iff]; simp), by repeat (first | (with_reducible first | exact HB.out | apply below_alloc | apply pw_below_drewN | apply below_drew1 | refine below_set ?_ GE262.out | refine below_set ?_ GE267.out) | exact HB.out)⟩
      · replace c27 := Bool.eq_false_iff.mpr c27
        subst c27
        have H1 : (if t258 = 3 then (spec_Rem.j1 kj4 a0 true t258 t259 t260 t261 t263 t264 t265 t266) else (spec_Rem.j1 kj4 a0 (t263 == 2) t258 t259 t260 t261 t263 t264 t265 t266)) = some r := by rw [if_neg (show ¬ (false = true) by decide)] at H; exact H
        clear H
        have H := H1
        clear H1
        have HC28 := Aside0.mk H
        clear H
        go_upto_region 5 with (fail)
        repeat (go_quiet (fail); go_upto_region 5 with (fail))
        go_cut [40] (fun v40 wc => ∃ (kq : Nat) (x40_27 : Bool), v40 = .bool x40_27 ∧ Aside0 (spec_Rem.j1 kq a0 x40_27 t258 t259 t260 t261 t263 t264 t265 t266 = some r) ∧ Aside0 (kq ≤ kj4) ∧ Aside0 (wc.heap[gb262]? = some (.cells #[.int .i64 t258, .bool t259, .int .u64 t260, .int .i64 t261] 34 (0, 0))) ∧ Aside0 (wc.heap[gb267]? = some (.cells #[.int .i64 t263, .bool t264, .int .u64 t265, .int .i64 t266] 34 (0, 0))) ∧ Aside0 (Below w.heap.size w wc))
        case first =>
          have H := HC28.out
          clear HC28
          by_cases c29 : t258 = 3
          · rw [if_pos c29] at H
            have c29b0 : (t258 == 3) = true := beq_iff_eq.mpr c29
            have c29b1 : (t258 != 3) = false := bne_eq_false_iff_eq.mpr c29
            clear c29
            (first | rw [c29b0] | (simp only [i64_w, i32_w]; rw [c29b0]) | skip)
            have H' := Aside0.mk H
            clear H
            have hnb30 := NB262_267.out
            have hnc30 := NB267_262.out
            have hcz31_0 : wc.cell? ⟨gb262, 0, none⟩ = some (.int .i64 t258) := (blk_cell BK262.out 0).trans rfl
            have hcz31_1 : wc.cell? ⟨gb262, 1, none⟩ = some (.bool t259) := (blk_cell BK262.out 1).trans rfl
            have hcz31_2 : wc.cell? ⟨gb262, 2, none⟩ = some (.int .u64 t260) := (blk_cell BK262.out 2).trans rfl
            have hcz31_3 : wc.cell? ⟨gb262, 3, none⟩ = some (.int .i64 t261) := (blk_cell BK262.out 3).trans rfl
            have hfz31_0 := blk_frozen BK262.out 0
            have hfz31_1 := blk_frozen BK262.out 1
            have hfz31_2 := blk_frozen BK262.out 2
            have hfz31_3 := blk_frozen BK262.out 3
            go_wp2
            repeat (go_quiet (fail); try go_wp2)
            go_meet
            case rel => exact ⟨_, (true), (by first | rfl | (simp; done) | (simp [*]; done)), H', ⟨by have := HJ4.out; first | omega | exact Nat.le_refl _⟩, ⟨by (with_reducible repeat (first | refine blk_drewN ?_ _ | refine blk_drew ?_ | refine blk_alloc ?_ _)); exact BK262.out⟩, ⟨by (with_reducible repeat (first | refine blk_drewN ?_ _ | refine blk_drew ?_ | refine blk_alloc ?_ _)); exact BK267.out⟩, ⟨by repeat (first | (with_reducible first | exact HB.out | apply below_alloc | apply pw_below_drewN | apply below_drew1 | refine below_set ?_ GE262.out | refine below_set ?_ GE267.out) | exact HB.out)⟩⟩
          · rw [if_neg c29] at H
            have c29b0 : (t258 == 3) = false := beq_eq_false_iff_ne.mpr c29
            have c29b1 : (t258 != 3) = true := bne_iff_ne.mpr c29
            (first | rw [c29b0] | (simp only [i64_w, i32_w]; rw [c29b0]) | skip)
            have H' := Aside0.mk H
            clear H
            have hnb32 := NB262_267.out
            have hnc32 := NB267_262.out
            have hcz33_0 : wc.cell? ⟨gb262, 0, none⟩ = some (.int .i64 t258) := (blk_cell BK262.out 0).trans rfl
            have hcz33_1 : wc.cell? ⟨gb262, 1, none⟩ = some (.bool t259) := (blk_cell BK262.out 1).trans rfl
            have hcz33_2 : wc.cell? ⟨gb262, 2, none⟩ = some (.int .u64 t260) := (blk_cell BK262.out 2).trans rfl
            have hcz33_3 : wc.cell? ⟨gb262, 3, none⟩ = some (.int .i64 t261) := (blk_cell BK262.out 3).trans rfl
            have hfz33_0 := blk_frozen BK262.out 0
            have hfz33_1 := blk_frozen BK262.out 1
            have hfz33_2 := blk_frozen BK262.out 2
            have hfz33_3 := blk_frozen BK262.out 3
            have hcz34_0 : wc.cell? ⟨gb267, 0, none⟩ = some (.int .i64 t263) := (blk_cell BK267.out 0).trans rfl
            have hcz34_1 : wc.cell? ⟨gb267, 1, none⟩ = some (.bool t264) := (blk_cell BK267.out 1).trans rfl
            have hcz34_2 : wc.cell? ⟨gb267, 2, none⟩ = some (.int .u64 t265) := (blk_cell BK267.out 2).trans rfl
            have hcz34_3 : wc.cell? ⟨gb267, 3, none⟩ = some (.int .i64 t266) := (blk_cell BK267.out 3).trans rfl
            have hfz34_0 := blk_frozen BK267.out 0
            have hfz34_1 := blk_frozen BK267.out 1
            have hfz34_2 := blk_frozen BK267.out 2
            have hfz34_3 := blk_frozen BK267.out 3
            go_wp2
            repeat (go_quiet (fail); try go_wp2)
            go_meet
            case rel => exact ⟨_, ((t263 == 2)), (by first | rfl | (simp; done) | (simp [*]; done)), H', ⟨by have := HJ4.out; first | omega | exact Nat.le_refl _⟩, ⟨by (with_reducible repeat (first | refine blk_drewN ?_ _ | refine blk_drew ?_ | refine blk_alloc ?_ _)); exact BK262.out⟩, ⟨by (with_reducible repeat (first | refine blk_drewN ?_ _ | refine blk_drew ?_ | refine blk_alloc ?_ _)); exact BK267.out⟩, ⟨by repeat (first | (with_reducible first | exact HB.out | apply below_alloc | apply pw_below_drewN | apply below_drew1 | refine below_set ?_ GE262.out | refine below_set ?_ GE267.out) | exact HB.out)⟩⟩
        case rest =>
          clear HC28
          try clear c1
          try clear c2
          try clear p2
          try clear c3
          try clear c6
          try clear c11
          try clear c13
          try clear c13b0
          try clear c13b1
          try clear c14
          try clear c16
          try clear c16b0
          try clear c16b1
          try clear c17
          try clear c20
          try clear c20b0
          try clear c20b1
          try clear c21
          try clear c24
          try clear c27
          try clear c29
          try clear c29b0
          try clear c29b1
          try clear c30
          try clear c32
          try clear hcz12_0
          try clear hcz12_1
          try clear hcz12_2
          try clear hcz12_3
          try clear hcz15_0
          try clear hcz15_1
          try clear hcz15_2
          try clear hcz15_3
          try clear hcz18_0
          try clear hcz18_1
          try clear hcz18_2
          try clear hcz18_3
          try clear hcz19_0
          try clear hcz19_1
          try clear hcz19_2
          try clear hcz19_3
          try clear hcz22_0
          try clear hcz22_1
          try clear hcz22_2
          try clear hcz22_3
          try clear hcz23_0
          try clear hcz23_1
          try clear hcz23_2
          try clear hcz23_3
          try clear hcz25_0
          try clear hcz25_1
          try clear hcz25_2
          try clear hcz25_3
          try clear hcz26_0
          try clear hcz26_1
          try clear hcz26_2
          try clear hcz26_3
          try clear hcz31_0
          try clear hcz31_1
          try clear hcz31_2
          try clear hcz31_3
          try clear hcz33_0
          try clear hcz33_1
          try clear hcz33_2
          try clear hcz33_3
          try clear hcz34_0
          try clear hcz34_1
          try clear hcz34_2
          try clear hcz34_3
          try clear hcz8_0
          try clear hcz8_1
          try clear hcz8_2
          try clear hcz8_3
          try clear hfz12_0
          try clear hfz12_1
          try clear hfz12_2
          try clear hfz12_3
          try clear hfz15_0
          try clear hfz15_1
          try clear hfz15_2
          try clear hfz15_3
          try clear hfz18_0
          try clear hfz18_1
          try clear hfz18_2
          try clear hfz18_3
          try clear hfz19_0
          try clear hfz19_1
          try clear hfz19_2
          try clear hfz19_3
          try clear hfz22_0
          try clear hfz22_1
          try clear hfz22_2
          try clear hfz22_3
          try clear hfz23_0
          try clear hfz23_1
          try clear hfz23_2
          try clear hfz23_3
          try clear hfz25_0
          try clear hfz25_1
          try clear hfz25_2
          try clear hfz25_3
          try clear hfz26_0
          try clear hfz26_1
          try clear hfz26_2
          try clear hfz26_3
          try clear hfz31_0
          try clear hfz31_1
          try clear hfz31_2
          try clear hfz31_3
          try clear hfz33_0
          try clear hfz33_1
          try clear hfz33_2
          try clear hfz33_3
          try clear hfz34_0
          try clear hfz34_1
          try clear hfz34_2
          try clear hfz34_3
          try clear hfz8_0
          try clear hfz8_1
          try clear hfz8_2
          try clear hfz8_3
          try clear p2
          obtain ⟨kq, x40_27, rfl, HA, HJ27, BK262, BK267, HB⟩ := hcut
          cases kq with
          | zero => exact absurd HA.out (by simp [spec_Rem.j1])
          | succ kj27 =>
            have H := HA.out
            clear HA
            simp only [spec_Rem.j1] at H
            by_cases c35 : x40_27 = true
            · subst c35
              have H1 : (some a0) = some r := by rw [if_pos rfl] at H; exact H
              clear H
              have H := H1
              clear H1
              obtain rfl := Option.some.inj H
              go_wp2
              repeat (go_quiet (fail); try go_wp2)
              go_ret
              exact ⟨by first | rfl | (simp; done) | (simp [errW_none, errW_some] <;> rfl) | (simp [*, errW_none, errW_some] <;> rfl) | (simp [bne, List.isEmpty_iff]; done) | (rw [Bool.eq_iff_iff]; simp), by repeat (first | (with_reducible first | exact HB.out | apply below_alloc | apply pw_below_drewN | apply below_drew1 | refine below_set ?_ GE262.out | refine below_set ?_ GE267.out) | exact HB.out)⟩
            · replace c35 := Bool.eq_false_iff.mpr c35
              subst c35
              have H1 : (if t261 ≥ t266 then (if t265 = 0 then (none) else (spec_Rem.l0 kj27 (Int.tmod t260 t265) t266 t258 t259 t260 t261 t263 t264 t265 t266)) else (spec_Rem.l1 kj27 a0 t260 t265 t261 t258 t259 t260 t261 t263 t264 t265 t266)) = some r := by rw [if_neg (show ¬ (false = true) by decide)] at H; exact H
              clear H
              have H := H1
              clear H1
              by_cases c36 : t261 ≥ t266
              · rw [if_pos c36] at H
                have c36b0 : decide (t266 ≤ t261) = true := decide_eq_true c36
                clear c36
                by_cases c37 : t265 = 0
                · rw [if_pos c37] at H
                  exact absurd H (by simp)
                · rw [if_neg c37] at H
                  have c37b0 : (t265 == 0) = false := beq_eq_false_iff_ne.mpr c37
                  have c37b1 : (t265 != 0) = true := bne_iff_ne.mpr c37
                  have H' := Aside0.mk H
                  clear H
                  have hnb38 := NB262_267.out
                  have hnc38 := NB267_262.out
                  have hcz39_0 : wc.cell? ⟨gb262, 0, none⟩ = some (.int .i64 t258) := (blk_cell BK262.out 0).trans rfl
                  have hcz39_1 : wc.cell? ⟨gb262, 1, none⟩ = some (.bool t259) := (blk_cell BK262.out 1).trans rfl
                  have hcz39_2 : wc.cell? ⟨gb262, 2, none⟩ = some (.int .u64 t260) := (blk_cell BK262.out 2).trans rfl
                  have hcz39_3 : wc.cell? ⟨gb262, 3, none⟩ = some (.int .i64 t261) := (blk_cell BK262.out 3).trans rfl
                  have hfz39_0 := blk_frozen BK262.out 0
                  have hfz39_1 := blk_frozen BK262.out 1
                  have hfz39_2 := blk_frozen BK262.out 2
                  have hfz39_3 := blk_frozen BK262.out 3
                  have hcz40_0 : wc.cell? ⟨gb267, 0, none⟩ = some (.int .i64 t263) := (blk_cell BK267.out 0).trans rfl
                  have hcz40_1 : wc.cell? ⟨gb267, 1, none⟩ = some (.bool t264) := (blk_cell BK267.out 1).trans rfl
                  have hcz40_2 : wc.cell? ⟨gb267, 2, none⟩ = some (.int .u64 t265) := (blk_cell BK267.out 2).trans rfl
                  have hcz40_3 : wc.cell? ⟨gb267, 3, none⟩ = some (.int .i64 t266) := (blk_cell BK267.out 3).trans rfl
                  have hfz40_0 := blk_frozen BK267.out 0
                  have hfz40_1 := blk_frozen BK267.out 1
                  have hfz40_2 := blk_frozen BK267.out 2
                  have hfz40_3 := blk_frozen BK267.out 3
                  go_wp2
                  repeat (go_quiet (fail); try go_wp2)
                  go_loopg [7, 8] kj27 (fun kq v7 v8 w' => ∃ (x7_3 : Int) (x8_3 : Int), v7 = .int .u64 x7_3 ∧ v8 = .int .i64 x8_3 ∧ Aside0 (spec_Rem.l0 kq x7_3 x8_3 t258 t259 t260 t261 t263 t264 t265 t266 = some r) ∧ Aside0 (kq ≤ kj27) ∧ Aside0 (w'.heap[gb262]? = some (.cells #[.int .i64 t258, .bool t259, .int .u64 t260, .int .i64 t261] 34 (0, 0))) ∧ Aside0 (w'.heap[gb267]? = some (.cells #[.int .i64 t263, .bool t264, .int .u64 t265, .int .i64 t266] 34 (0, 0))) ∧ Aside0 (Below w.heap.size w w'))
                  case atStart => exact ⟨(Int.tmod t260 t265), (t266), (by first | rfl | (simp; done) | (simp [*]; done)), (by first | rfl | (simp; done) | (simp [*]; done)), H', ⟨Nat.le_refl _⟩, ⟨by (with_reducible repeat (first | refine blk_drewN ?_ _ | refine blk_drew ?_ | refine blk_alloc ?_ _)); exact BK262.out⟩, ⟨by (with_reducible repeat (first | refine blk_drewN ?_ _ | refine blk_drew ?_ | refine blk_alloc ?_ _)); exact BK267.out⟩, ⟨by repeat (first | (with_reducible first | exact HB.out | apply below_alloc | apply pw_below_drewN | apply below_drew1 | refine below_set ?_ GE262.out | refine below_set ?_ GE267.out) | exact HB.out)⟩⟩
                  case round =>
                    clear H'
                    try clear c1
                    try clear c2
                    try clear p2
                    try clear c3
                    try clear c6
                    try clear c11
                    try clear c13
                    try clear c13b0
                    try clear c13b1
                    try clear c14
                    try clear c16
                    try clear c16b0
                    try clear c16b1
                    try clear c17
                    try clear c20
                    try clear c20b0
                    try clear c20b1
                    try clear c21
                    try clear c24
                    try clear c27
                    try clear c29
                    try clear c29b0
                    try clear c29b1
                    try clear c30
                    try clear c32
                    try clear c35
                    try clear c36
                    try clear c36b0
                    try clear c37
                    try clear c37b0
                    try clear c37b1
                    try clear c38
                    try clear hcz12_0
                    try clear hcz12_1
                    try clear hcz12_2
                    try clear hcz12_3
                    try clear hcz15_0
                    try clear hcz15_1
                    try clear hcz15_2
                    try clear hcz15_3
                    try clear hcz18_0
                    try clear hcz18_1
                    try clear hcz18_2
                    try clear hcz18_3
                    try clear hcz19_0
                    try clear hcz19_1
                    try clear hcz19_2
                    try clear hcz19_3
                    try clear hcz22_0
                    try clear hcz22_1
                    try clear hcz22_2
                    try clear hcz22_3
                    try clear hcz23_0
                    try clear hcz23_1
                    try clear hcz23_2
                    try clear hcz23_3
                    try clear hcz25_0
                    try clear hcz25_1
                    try clear hcz25_2
                    try clear hcz25_3
                    try clear hcz26_0
                    try clear hcz26_1
                    try clear hcz26_2
                    try clear hcz26_3
                    try clear hcz31_0
                    try clear hcz31_1
                    try clear hcz31_2
                    try clear hcz31_3
                    try clear hcz33_0
                    try clear hcz33_1
                    try clear hcz33_2
                    try clear hcz33_3
                    try clear hcz34_0
                    try clear hcz34_1
                    try clear hcz34_2
                    try clear hcz34_3
                    try clear hcz39_0
                    try clear hcz39_1
                    try clear hcz39_2
                    try clear hcz39_3
                    try clear hcz40_0
                    try clear hcz40_1
                    try clear hcz40_2
                    try clear hcz40_3
                    try clear hcz8_0
                    try clear hcz8_1
                    try clear hcz8_2
                    try clear hcz8_3
                    try clear hfz12_0
                    try clear hfz12_1
                    try clear hfz12_2
                    try clear hfz12_3
                    try clear hfz15_0
                    try clear hfz15_1
                    try clear hfz15_2
                    try clear hfz15_3
                    try clear hfz18_0
                    try clear hfz18_1
                    try clear hfz18_2
                    try clear hfz18_3
                    try clear hfz19_0
                    try clear hfz19_1
                    try clear hfz19_2
                    try clear hfz19_3
                    try clear hfz22_0
                    try clear hfz22_1
                    try clear hfz22_2
                    try clear hfz22_3
                    try clear hfz23_0
                    try clear hfz23_1
                    try clear hfz23_2
                    try clear hfz23_3
                    try clear hfz25_0
                    try clear hfz25_1
                    try clear hfz25_2
                    try clear hfz25_3
                    try clear hfz26_0
                    try clear hfz26_1
                    try clear hfz26_2
                    try clear hfz26_3
                    try clear hfz31_0
                    try clear hfz31_1
                    try clear hfz31_2
                    try clear hfz31_3
                    try clear hfz33_0
                    try clear hfz33_1
                    try clear hfz33_2
                    try clear hfz33_3
                    try clear hfz34_0
                    try clear hfz34_1
                    try clear hfz34_2
                    try clear hfz34_3
                    try clear hfz39_0
                    try clear hfz39_1
                    try clear hfz39_2
                    try clear hfz39_3
                    try clear hfz40_0
                    try clear hfz40_1
                    try clear hfz40_2
                    try clear hfz40_3
                    try clear hfz8_0
                    try clear hfz8_1
                    try clear hfz8_2
                    try clear hfz8_3
                    try clear p2
                    obtain ⟨x7_3, x8_3, rfl, rfl, HA, HK3, BK262, BK267, HB⟩ := hrel
                    cases gk with
                    | zero => exact absurd HA.out (by simp [spec_Rem.l0])
                    | succ k3 =>
                      have H := HA.out
                      clear HA
                      simp only [spec_Rem.l0] at H
                      by_cases c41 : x8_3 < t261
                      · rw [if_pos c41] at H
                        have c41b0 : decide (x8_3 < t261) = true := decide_eq_true c41
                        clear c41
                        by_cases c42 : t265 = 0
                        · rw [if_pos c42] at H
                          exact absurd H (by simp)
                        · rw [if_neg c42] at H
                          have c42b0 : (t265 == 0) = false := beq_eq_false_iff_ne.mpr c42
                          have c42b1 : (t265 != 0) = true := bne_iff_ne.mpr c42
                          have H' := Aside0.mk H
                          clear H
                          have hnb43 := NB262_267.out
                          have hnc43 := NB267_262.out
                          have hcz44_0 : wr.cell? ⟨gb262, 0, none⟩ = some (.int .i64 t258) := (blk_cell BK262.out 0).trans rfl
                          have hcz44_1 : wr.cell? ⟨gb262, 1, none⟩ = some (.bool t259) := (blk_cell BK262.out 1).trans rfl
                          have hcz44_2 : wr.cell? ⟨gb262, 2, none⟩ = some (.int .u64 t260) := (blk_cell BK262.out 2).trans rfl
                          have hcz44_3 : wr.cell? ⟨gb262, 3, none⟩ = some (.int .i64 t261) := (blk_cell BK262.out 3).trans rfl
                          have hfz44_0 := blk_frozen BK262.out 0
                          have hfz44_1 := blk_frozen BK262.out 1
                          have hfz44_2 := blk_frozen BK262.out 2
                          have hfz44_3 := blk_frozen BK262.out 3
                          have hcz45_0 : wr.cell? ⟨gb267, 0, none⟩ = some (.int .i64 t263) := (blk_cell BK267.out 0).trans rfl
                          have hcz45_1 : wr.cell? ⟨gb267, 1, none⟩ = some (.bool t264) := (blk_cell BK267.out 1).trans rfl
                          have hcz45_2 : wr.cell? ⟨gb267, 2, none⟩ = some (.int .u64 t265) := (blk_cell BK267.out 2).trans rfl
                          have hcz45_3 : wr.cell? ⟨gb267, 3, none⟩ = some (.int .i64 t266) := (blk_cell BK267.out 3).trans rfl
                          have hfz45_0 := blk_frozen BK267.out 0
                          have hfz45_1 := blk_frozen BK267.out 1
                          have hfz45_2 := blk_frozen BK267.out 2
                          have hfz45_3 := blk_frozen BK267.out 3
                          go_wp2
                          repeat (go_quiet (fail); try go_wp2)
                          go_roundg k3
                          case measure => have := HJ4.out; have := HJ27.out; have := HK3.out; omega
                          case rel => exact ⟨(Int.tmod (IntKind.u64.wrap (x7_3 * 2)) t265), (wrap64 (x8_3 + 1)), (by first | rfl | (simp; done) | (simp [*]; done)), (by first | rfl | (simp; done) | (simp [*]; done)), H', ⟨by have := HJ4.out; have := HJ27.out; have := HK3.out; omega⟩, ⟨by (with_reducible repeat (first | refine blk_drewN ?_ _ | refine blk_drew ?_ | refine blk_alloc ?_ _)); exact BK262.out⟩, ⟨by (with_reducible repeat (first | refine blk_drewN ?_ _ | refine blk_drew ?_ | refine blk_alloc ?_ _)); exact BK267.out⟩, ⟨by repeat (first | (with_reducible first | exact HB.out | apply below_alloc | apply pw_below_drewN | apply below_drew1 | refine below_set ?_ GE262.out | refine below_set ?_ GE267.out) | exact HB.out)⟩⟩
                      · rw [if_neg c41] at H
                        have c41b0 : decide (x8_3 < t261) = false := decide_eq_false c41
                        clear c41
                        replace H := Option.bind_eq_some_iff.mp H
                        obtain ⟨t268, A460, H⟩ := H
                        replace H : (some t268) = some r := H
                        have A46 := Aside0.mk A460
                        clear A460
                        obtain rfl := Option.some.inj H
                        have hnb47 := NB262_267.out
                        have hnc47 := NB267_262.out
                        have hcz48_0 : wr.cell? ⟨gb262, 0, none⟩ = some (.int .i64 t258) := (blk_cell BK262.out 0).trans rfl
                        have hcz48_1 : wr.cell? ⟨gb262, 1, none⟩ = some (.bool t259) := (blk_cell BK262.out 1).trans rfl
                        have hcz48_2 : wr.cell? ⟨gb262, 2, none⟩ = some (.int .u64 t260) := (blk_cell BK262.out 2).trans rfl
                        have hcz48_3 : wr.cell? ⟨gb262, 3, none⟩ = some (.int .i64 t261) := (blk_cell BK262.out 3).trans rfl
                        have hfz48_0 := blk_frozen BK262.out 0
                        have hfz48_1 := blk_frozen BK262.out 1
                        have hfz48_2 := blk_frozen BK262.out 2
                        have hfz48_3 := blk_frozen BK262.out 3
                        have hcz49_0 : wr.cell? ⟨gb267, 0, none⟩ = some (.int .i64 t263) := (blk_cell BK267.out 0).trans rfl
                        have hcz49_1 : wr.cell? ⟨gb267, 1, none⟩ = some (.bool t264) := (blk_cell BK267.out 1).trans rfl
                        have hcz49_2 : wr.cell? ⟨gb267, 2, none⟩ = some (.int .u64 t265) := (blk_cell BK267.out 2).trans rfl
                        have hcz49_3 : wr.cell? ⟨gb267, 3, none⟩ = some (.int .i64 t266) := (blk_cell BK267.out 3).trans rfl
                        have hfz49_0 := blk_frozen BK267.out 0
                        have hfz49_1 := blk_frozen BK267.out 1
                        have hfz49_2 := blk_frozen BK267.out 2
                        have hfz49_3 := blk_frozen BK267.out 3
                        go_wp2_with (first | (go_at_call 42; (with_reducible refine (spec_RoundTo.calls k3 t259 x7_3 t266 false t268 _ A46.out).mono ?_); rintro e w' ⟨rfl, ⟨nd, rfl⟩⟩; (try first | exact ⟨rfl, _, World.drewN_drewN _ _ _⟩ | exact ⟨rfl, _, Eq.trans (World.drewN_drewN _ _ _) (congrArg (World.drewN _) (Nat.add_assoc _ _ _))⟩)))
                        repeat (go_quiet (first | (go_at_call 42; (with_reducible refine (spec_RoundTo.calls k3 t259 x7_3 t266 false t268 _ A46.out).mono ?_); rintro e w' ⟨rfl, ⟨nd, rfl⟩⟩; (try first | exact ⟨rfl, _, World.drewN_drewN _ _ _⟩ | exact ⟨rfl, _, Eq.trans (World.drewN_drewN _ _ _) (congrArg (World.drewN _) (Nat.add_assoc _ _ _))⟩))); try go_wp2_with (first | (go_at_call 42; (with_reducible refine (spec_RoundTo.calls k3 t259 x7_3 t266 false t268 _ A46.out).mono ?_); rintro e w' ⟨rfl, ⟨nd, rfl⟩⟩; (try first | exact ⟨rfl, _, World.drewN_drewN _ _ _⟩ | exact ⟨rfl, _, Eq.trans (World.drewN_drewN _ _ _) (congrArg (World.drewN _) (Nat.add_assoc _ _ _))⟩))))
                        go_ret
                        exact ⟨by first | rfl | (simp; done) | (simp [errW_none, errW_some] <;> rfl) | (simp [*, errW_none, errW_some] <;> rfl) | (simp [bne, List.isEmpty_iff]; done) | (rw [Bool.eq_iff_iff]; simp), by repeat (first | (with_reducible first | exact HB.out | apply below_alloc | apply pw_below_drewN | apply below_drew1 | refine below_set ?_ GE262.out | refine below_set ?_ GE267.out) | exact HB.out)⟩
              · rw [if_neg c36] at H
                have c36b0 : decide (t266 ≤ t261) = false := decide_eq_false c36
                clear c36
                have H' := Aside0.mk H
                clear H
                have hnb50 := NB262_267.out
                have hnc50 := NB267_262.out
                have hcz51_0 : wc.cell? ⟨gb262, 0, none⟩ = some (.int .i64 t258) := (blk_cell BK262.out 0).trans rfl
                have hcz51_1 : wc.cell? ⟨gb262, 1, none⟩ = some (.bool t259) := (blk_cell BK262.out 1).trans rfl
                have hcz51_2 : wc.cell? ⟨gb262, 2, none⟩ = some (.int .u64 t260) := (blk_cell BK262.out 2).trans rfl
                have hcz51_3 : wc.cell? ⟨gb262, 3, none⟩ = some (.int .i64 t261) := (blk_cell BK262.out 3).trans rfl
                have hfz51_0 := blk_frozen BK262.out 0
                have hfz51_1 := blk_frozen BK262.out 1
                have hfz51_2 := blk_frozen BK262.out 2
                have hfz51_3 := blk_frozen BK262.out 3
                have hcz52_0 : wc.cell? ⟨gb267, 0, none⟩ = some (.int .i64 t263) := (blk_cell BK267.out 0).trans rfl
                have hcz52_1 : wc.cell? ⟨gb267, 1, none⟩ = some (.bool t264) := (blk_cell BK267.out 1).trans rfl
                have hcz52_2 : wc.cell? ⟨gb267, 2, none⟩ = some (.int .u64 t265) := (blk_cell BK267.out 2).trans rfl
                have hcz52_3 : wc.cell? ⟨gb267, 3, none⟩ = some (.int .i64 t266) := (blk_cell BK267.out 3).trans rfl
                have hfz52_0 := blk_frozen BK267.out 0
                have hfz52_1 := blk_frozen BK267.out 1
                have hfz52_2 := blk_frozen BK267.out 2
                have hfz52_3 := blk_frozen BK267.out 3
                go_wp2
                repeat (go_quiet (fail); try go_wp2)
                go_loopg [9, 10] kj27 (fun kq v9 v10 w' => ∃ (x9_3 : Int) (x10_3 : Int), v9 = .int .u64 x9_3 ∧ v10 = .int .i64 x10_3 ∧ Aside0 (spec_Rem.l1 kq a0 t260 x9_3 x10_3 t258 t259 t260 t261 t263 t264 t265 t266 = some r) ∧ Aside0 (kq ≤ kj27) ∧ Aside0 (w'.heap[gb262]? = some (.cells #[.int .i64 t258, .bool t259, .int .u64 t260, .int .i64 t261] 34 (0, 0))) ∧ Aside0 (w'.heap[gb267]? = some (.cells #[.int .i64 t263, .bool t264, .int .u64 t265, .int .i64 t266] 34 (0, 0))) ∧ Aside0 (Below w.heap.size w w'))
                case atStart => exact ⟨(t265), (t261), (by first | rfl | (simp; done) | (simp [*]; done)), (by first | rfl | (simp; done) | (simp [*]; done)), H', ⟨Nat.le_refl _⟩, ⟨by (with_reducible repeat (first | refine blk_drewN ?_ _ | refine blk_drew ?_ | refine blk_alloc ?_ _)); exact BK262.out⟩, ⟨by (with_reducible repeat (first | refine blk_drewN ?_ _ | refine blk_drew ?_ | refine blk_alloc ?_ _)); exact BK267.out⟩, ⟨by repeat (first | (with_reducible first | exact HB.out | apply below_alloc | apply pw_below_drewN | apply below_drew1 | refine below_set ?_ GE262.out | refine below_set ?_ GE267.out) | exact HB.out)⟩⟩
                case round =>
                  clear H'
                  try clear c1
                  try clear c2
                  try clear p2
                  try clear c3
                  try clear c4
                  try clear c5
                  try clear c6
                  try clear p6
                  try clear c11
                  try clear c13
                  try clear c13b0
                  try clear c13b1
                  try clear c14
                  try clear c16
                  try clear c16b0
                  try clear c16b1
                  try clear c17
                  try clear c20
                  try clear c20b0
                  try clear c20b1
                  try clear c21
                  try clear c24
                  try clear c27
                  try clear c29
                  try clear c29b0
                  try clear c29b1
                  try clear c30
                  try clear c32
                  try clear c35
                  try clear c36
                  try clear c36b0
                  try clear c37
                  try clear c37b0
                  try clear c37b1
                  try clear c38
                  try clear c41
                  try clear c41b0
                  try clear c42
                  try clear c42b0
                  try clear c42b1
                  try clear c43
                  try clear c47
                  try clear c50
                  try clear hcz12_0
                  try clear hcz12_1
                  try clear hcz12_2
                  try clear hcz12_3
                  try clear hcz15_0
                  try clear hcz15_1
                  try clear hcz15_2
                  try clear hcz15_3
                  try clear hcz18_0
                  try clear hcz18_1
                  try clear hcz18_2
                  try clear hcz18_3
                  try clear hcz19_0
                  try clear hcz19_1
                  try clear hcz19_2
                  try clear hcz19_3
                  try clear hcz22_0
                  try clear hcz22_1
                  try clear hcz22_2
                  try clear hcz22_3
                  try clear hcz23_0
                  try clear hcz23_1
                  try clear hcz23_2
                  try clear hcz23_3
                  try clear hcz25_0
                  try clear hcz25_1
                  try clear hcz25_2
                  try clear hcz25_3
                  try clear hcz26_0
                  try clear hcz26_1
                  try clear hcz26_2
                  try clear hcz26_3
                  try clear hcz31_0
                  try clear hcz31_1
                  try clear hcz31_2
                  try clear hcz31_3
                  try clear hcz33_0
                  try clear hcz33_1
                  try clear hcz33_2
                  try clear hcz33_3
                  try clear hcz34_0
                  try clear hcz34_1
                  try clear hcz34_2
                  try clear hcz34_3
                  try clear hcz39_0
                  try clear hcz39_1
                  try clear hcz39_2
                  try clear hcz39_3
                  try clear hcz40_0
                  try clear hcz40_1
                  try clear hcz40_2
                  try clear hcz40_3
                  try clear hcz44_0
                  try clear hcz44_1
                  try clear hcz44_2
                  try clear hcz44_3
                  try clear hcz45_0
                  try clear hcz45_1
                  try clear hcz45_2
                  try clear hcz45_3
                  try clear hcz48_0
                  try clear hcz48_1
                  try clear hcz48_2
                  try clear hcz48_3
                  try clear hcz49_0
                  try clear hcz49_1
                  try clear hcz49_2
                  try clear hcz49_3
                  try clear hcz51_0
                  try clear hcz51_1
                  try clear hcz51_2
                  try clear hcz51_3
                  try clear hcz52_0
                  try clear hcz52_1
                  try clear hcz52_2
                  try clear hcz52_3
                  try clear hcz8_0
                  try clear hcz8_1
                  try clear hcz8_2
                  try clear hcz8_3
                  try clear hfz12_0
                  try clear hfz12_1
                  try clear hfz12_2
                  try clear hfz12_3
                  try clear hfz15_0
                  try clear hfz15_1
                  try clear hfz15_2
                  try clear hfz15_3
                  try clear hfz18_0
                  try clear hfz18_1
                  try clear hfz18_2
                  try clear hfz18_3
                  try clear hfz19_0
                  try clear hfz19_1
                  try clear hfz19_2
                  try clear hfz19_3
                  try clear hfz22_0
                  try clear hfz22_1
                  try clear hfz22_2
                  try clear hfz22_3
                  try clear hfz23_0
                  try clear hfz23_1
                  try clear hfz23_2
                  try clear hfz23_3
                  try clear hfz25_0
                  try clear hfz25_1
                  try clear hfz25_2
                  try clear hfz25_3
                  try clear hfz26_0
                  try clear hfz26_1
                  try clear hfz26_2
                  try clear hfz26_3
                  try clear hfz31_0
                  try clear hfz31_1
                  try clear hfz31_2
                  try clear hfz31_3
                  try clear hfz33_0
                  try clear hfz33_1
                  try clear hfz33_2
                  try clear hfz33_3
                  try clear hfz34_0
                  try clear hfz34_1
                  try clear hfz34_2
                  try clear hfz34_3
                  try clear hfz39_0
                  try clear hfz39_1
                  try clear hfz39_2
                  try clear hfz39_3
                  try clear hfz40_0
                  try clear hfz40_1
                  try clear hfz40_2
                  try clear hfz40_3
                  try clear hfz44_0
                  try clear hfz44_1
                  try clear hfz44_2
                  try clear hfz44_3
                  try clear hfz45_0
                  try clear hfz45_1
                  try clear hfz45_2
                  try clear hfz45_3
                  try clear hfz48_0
                  try clear hfz48_1
                  try clear hfz48_2
                  try clear hfz48_3
                  try clear hfz49_0
                  try clear hfz49_1
                  try clear hfz49_2
                  try clear hfz49_3
                  try clear hfz51_0
                  try clear hfz51_1
                  try clear hfz51_2
                  try clear hfz51_3
                  try clear hfz52_0
                  try clear hfz52_1
                  try clear hfz52_2
                  try clear hfz52_3
                  try clear hfz8_0
                  try clear hfz8_1
                  try clear hfz8_2
                  try clear hfz8_3
                  try clear p2
                  obtain ⟨x9_3, x10_3, rfl, rfl, HA, HK3, BK262, BK267, HB⟩ := hrel
                  cases gk with
                  | zero => exact absurd HA.out (by simp [spec_Rem.l1])
                  | succ k3 =>
                    have H := HA.out
                    clear HA
                    simp only [spec_Rem.l1] at H
                    by_cases c53 : x10_3 < t266
                    · rw [if_pos c53] at H
                      have c53b0 : decide (x10_3 < t266) = true := decide_eq_true c53
                      clear c53
                      by_cases c54 : x9_3 > t260
                      · rw [if_pos c54] at H
                        have c54b0 : decide (t260 < x9_3) = true := decide_eq_true c54
                        clear c54
                        obtain rfl := Option.some.inj H
                        have hnb55 := NB267_262.out
                        have hnc55 := NB262_267.out
                        have hcz56_0 : wr.cell? ⟨gb267, 0, none⟩ = some (.int .i64 t263) := (blk_cell BK267.out 0).trans rfl
                        have hcz56_1 : wr.cell? ⟨gb267, 1, none⟩ = some (.bool t264) := (blk_cell BK267.out 1).trans rfl
                        have hcz56_2 : wr.cell? ⟨gb267, 2, none⟩ = some (.int .u64 t265) := (blk_cell BK267.out 2).trans rfl
                        have hcz56_3 : wr.cell? ⟨gb267, 3, none⟩ = some (.int .i64 t266) := (blk_cell BK267.out 3).trans rfl
                        have hfz56_0 := blk_frozen BK267.out 0
                        have hfz56_1 := blk_frozen BK267.out 1
                        have hfz56_2 := blk_frozen BK267.out 2
                        have hfz56_3 := blk_frozen BK267.out 3
                        go_wp2
                        repeat (go_quiet (fail); try go_wp2)
                        go_ret
                        exact ⟨by first | rfl | (simp; done) | (simp [errW_none, errW_some] <;> rfl) | (simp [*, errW_none, errW_some] <;> rfl) | (simp [bne, List.isEmpty_iff]; done) | (rw [Bool.eq_iff_iff]; simp), by repeat (first | (with_reducible first | exact HB.out | apply below_alloc | apply pw_below_drewN | apply below_drew1 | refine below_set ?_ GE262.out | refine below_set ?_ GE267.out) | exact HB.out)⟩
                      · rw [if_neg c54] at H
                        have c54b0 : decide (t260 < x9_3) = false := decide_eq_false c54
                        clear c54
                        have H' := Aside0.mk H
                        clear H
                        have hnb57 := NB267_262.out
                        have hnc57 := NB262_267.out
                        have hcz58_0 : wr.cell? ⟨gb267, 0, none⟩ = some (.int .i64 t263) := (blk_cell BK267.out 0).trans rfl
                        have hcz58_1 : wr.cell? ⟨gb267, 1, none⟩ = some (.bool t264) := (blk_cell BK267.out 1).trans rfl
                        have hcz58_2 : wr.cell? ⟨gb267, 2, none⟩ = some (.int .u64 t265) := (blk_cell BK267.out 2).trans rfl
                        have hcz58_3 : wr.cell? ⟨gb267, 3, none⟩ = some (.int .i64 t266) := (blk_cell BK267.out 3).trans rfl
                        have hfz58_0 := blk_frozen BK267.out 0
                        have hfz58_1 := blk_frozen BK267.out 1
                        have hfz58_2 := blk_frozen BK267.out 2
                        have hfz58_3 := blk_frozen BK267.out 3
                        go_wp2
                        repeat (go_quiet (fail); try go_wp2)
                        go_roundg k3
                        case measure => have := HJ4.out; have := HJ27.out; have := HK3.out; omega
                        case rel => exact ⟨(IntKind.u64.wrap (x9_3 * 2)), (wrap64 (x10_3 + 1)), (by first | rfl | (simp; done) | (simp [*]; done)), (by first | rfl | (simp; done) | (simp [*]; done)), H', ⟨by have := HJ4.out; have := HJ27.out; have := HK3.out; omega⟩, ⟨by (with_reducible repeat (first | refine blk_drewN ?_ _ | refine blk_drew ?_ | refine blk_alloc ?_ _)); exact BK262.out⟩, ⟨by (with_reducible repeat (first | refine blk_drewN ?_ _ | refine blk_drew ?_ | refine blk_alloc ?_ _)); exact BK267.out⟩, ⟨by repeat (first | (with_reducible first | exact HB.out | apply below_alloc | apply pw_below_drewN | apply below_drew1 | refine below_set ?_ GE262.out | refine below_set ?_ GE267.out) | exact HB.out)⟩⟩
                    · rw [if_neg c53] at H
                      have c53b0 : decide (x10_3 < t266) = false := decide_eq_false c53
                      clear c53
                      by_cases c59 : x9_3 = 0
                      · rw [if_pos c59] at H
                        exact absurd H (by simp)
                      · rw [if_neg c59] at H
                        have c59b0 : (x9_3 == 0) = false := beq_eq_false_iff_ne.mpr c59
                        have c59b1 : (x9_3 != 0) = true := bne_iff_ne.mpr c59
                        replace H := Option.bind_eq_some_iff.mp H
                        obtain ⟨t269, A600, H⟩ := H
                        replace H : (some t269) = some r := H
                        have A60 := Aside0.mk A600
                        clear A600
                        obtain rfl := Option.some.inj H
                        have hnb61 := NB267_262.out
                        have hnc61 := NB262_267.out
                        have hcz62_0 : wr.cell? ⟨gb267, 0, none⟩ = some (.int .i64 t263) := (blk_cell BK267.out 0).trans rfl
                        have hcz62_1 : wr.cell? ⟨gb267, 1, none⟩ = some (.bool t264) := (blk_cell BK267.out 1).trans rfl
                        have hcz62_2 : wr.cell? ⟨gb267, 2, none⟩ = some (.int .u64 t265) := (blk_cell BK267.out 2).trans rfl
                        have hcz62_3 : wr.cell? ⟨gb267, 3, none⟩ = some (.int .i64 t266) := (blk_cell BK267.out 3).trans rfl
                        have hfz62_0 := blk_frozen BK267.out 0
                        have hfz62_1 := blk_frozen BK267.out 1
                        have hfz62_2 := blk_frozen BK267.out 2
                        have hfz62_3 := blk_frozen BK267.out 3
                        have hcz63_0 : wr.cell? ⟨gb262, 0, none⟩ = some (.int .i64 t258) := (blk_cell BK262.out 0).trans rfl
                        have hcz63_1 : wr.cell? ⟨gb262, 1, none⟩ = some (.bool t259) := (blk_cell BK262.out 1).trans rfl
                        have hcz63_2 : wr.cell? ⟨gb262, 2, none⟩ = some (.int .u64 t260) := (blk_cell BK262.out 2).trans rfl
                        have hcz63_3 : wr.cell? ⟨gb262, 3, none⟩ = some (.int .i64 t261) := (blk_cell BK262.out 3).trans rfl
                        have hfz63_0 := blk_frozen BK262.out 0
                        have hfz63_1 := blk_frozen BK262.out 1
                        have hfz63_2 := blk_frozen BK262.out 2
                        have hfz63_3 := blk_frozen BK262.out 3
                        go_wp2_with (first | (go_at_call 42; (with_reducible refine (spec_RoundTo.calls k3 t259 (Int.tmod t260 x9_3) t261 false t269 _ A60.out).mono ?_); rintro e w' ⟨rfl, ⟨nd, rfl⟩⟩; (try first | exact ⟨rfl, _, World.drewN_drewN _ _ _⟩ | exact ⟨rfl, _, Eq.trans (World.drewN_drewN _ _ _) (congrArg (World.drewN _) (Nat.add_assoc _ _ _))⟩)))
                        repeat (go_quiet (first | (go_at_call 42; (with_reducible refine (spec_RoundTo.calls k3 t259 (Int.tmod t260 x9_3) t261 false t269 _ A60.out).mono ?_); rintro e w' ⟨rfl, ⟨nd, rfl⟩⟩; (try first | exact ⟨rfl, _, World.drewN_drewN _ _ _⟩ | exact ⟨rfl, _, Eq.trans (World.drewN_drewN _ _ _) (congrArg (World.drewN _) (Nat.add_assoc _ _ _))⟩))); try go_wp2_with (first | (go_at_call 42; (with_reducible refine (spec_RoundTo.calls k3 t259 (Int.tmod t260 x9_3) t261 false t269 _ A60.out).mono ?_); rintro e w' ⟨rfl, ⟨nd, rfl⟩⟩; (try first | exact ⟨rfl, _, World.drewN_drewN _ _ _⟩ | exact ⟨rfl, _, Eq.trans (World.drewN_drewN _ _ _) (congrArg (World.drewN _) (Nat.add_assoc _ _ _))⟩))))
                        go_ret
                        exact ⟨by first | rfl | (simp; done) | (simp [errW_none, errW_some] <;> rfl) | (simp [*, errW_none, errW_some] <;> rfl) | (simp [bne, List.isEmpty_iff]; done) | (rw [Bool.eq_iff_iff]; simp), by repeat (first | (with_reducible first | exact HB.out | apply below_alloc | apply pw_below_drewN | apply below_drew1 | refine below_set ?_ GE262.out | refine below_set ?_ GE267.out) | exact HB.out)⟩
end Go.Proofs.Ytokhgodcamhibaa.QFnExactDoBinary
end
section
namespace Go.Proofs.Ytokhgodcamhibaa.QFnExactDoBinary
open Go.RowKit Go.Proofs.YtokhgodcamhibaaW.PrintWords Go.Proofs.YtokhgodcamhibaaW.PrintLast Go.Proofs.YtokhgodcamhibaaW.PrintMore
attribute [local go_sem] max_two min_two max_three min_three max_four min_four run_field34_0 max2_mx min2_mn   -- for this text's walks alone
set_option linter.unusedVariables false
set_option linter.unusedSimpArgs false
def spec_Wide.f (a0 : Int) (a1 : Int) : Option (Int × Int) := some (IntKind.u64.wrap ((IntKind.u64.wrap ((IntKind.u64.wrap ((IntKind.u64.wrap (Int.tdiv a0 4294967296)) * (IntKind.u64.wrap (Int.tdiv a1 4294967296)))) + (IntKind.u64.wrap (Int.tdiv (IntKind.u64.wrap ((IntKind.u64.wrap ((IntKind.u64.wrap (Int.tdiv a0 4294967296)) * (Int.tmod a1 4294967296))) + (IntKind.u64.wrap (Int.tdiv (IntKind.u64.wrap ((Int.tmod a0 4294967296) * (Int.tmod a1 4294967296))) 4294967296)))) 4294967296)))) + (IntKind.u64.wrap (Int.tdiv (IntKind.u64.wrap ((IntKind.u64.wrap ((Int.tmod a0 4294967296) * (IntKind.u64.wrap (Int.tdiv a1 4294967296)))) + (Int.tmod (IntKind.u64.wrap ((IntKind.u64.wrap ((IntKind.u64.wrap (Int.tdiv a0 4294967296)) * (Int.tmod a1 4294967296))) + (IntKind.u64.wrap (Int.tdiv (IntKind.u64.wrap ((Int.tmod a0 4294967296) * (Int.tmod a1 4294967296))) 4294967296)))) 4294967296))) 4294967296))), IntKind.u64.wrap ((IntKind.u64.wrap ((IntKind.u64.wrap ((IntKind.u64.wrap ((Int.tmod a0 4294967296) * (IntKind.u64.wrap (Int.tdiv a1 4294967296)))) + (Int.tmod (IntKind.u64.wrap ((IntKind.u64.wrap ((IntKind.u64.wrap (Int.tdiv a0 4294967296)) * (Int.tmod a1 4294967296))) + (IntKind.u64.wrap (Int.tdiv (IntKind.u64.wrap ((Int.tmod a0 4294967296) * (Int.tmod a1 4294967296))) 4294967296)))) 4294967296))) * 4294967296)) + (Int.tmod (IntKind.u64.wrap ((Int.tmod a0 4294967296) * (Int.tmod a1 4294967296))) 4294967296)))
set_option maxHeartbeats 8000000 in
set_option maxRecDepth 100000 in
theorem spec_Wide.calls (a0 : Int) (a1 : Int) (r1 : Int) (r2 : Int) (w : World) (h : spec_Wide.f a0 a1 = some (r1, r2)) :
    Calls Try.prog 44 #[.int .u64 a0, .int .u64 a1] w fun e w' => e = .returned (.tuple #[.int .u64 r1, .int .u64 r2]) ∧ Drawn0 w w' := by
  have H : (some (IntKind.u64.wrap ((IntKind.u64.wrap ((IntKind.u64.wrap ((IntKind.u64.wrap (Int.tdiv a0 4294967296)) * (IntKind.u64.wrap (Int.tdiv a1 4294967296)))) + (IntKind.u64.wrap (Int.tdiv (IntKind.u64.wrap ((IntKind.u64.wrap ((IntKind.u64.wrap (Int.tdiv a0 4294967296)) * (Int.tmod a1 4294967296))) + (IntKind.u64.wrap (Int.tdiv (IntKind.u64.wrap ((Int.tmod a0 4294967296) * (Int.tmod a1 4294967296))) 4294967296)))) 4294967296)))) + (IntKind.u64.wrap (Int.tdiv (IntKind.u64.wrap ((IntKind.u64.wrap ((Int.tmod a0 4294967296) * (IntKind.u64.wrap (Int.tdiv a1 4294967296)))) + (Int.tmod (IntKind.u64.wrap ((IntKind.u64.wrap ((IntKind.u64.wrap (Int.tdiv a0 4294967296)) * (Int.tmod a1 4294967296))) + (IntKind.u64.wrap (Int.tdiv (IntKind.u64.wrap ((Int.tmod a0 4294967296) * (Int.tmod a1 4294967296))) 4294967296)))) 4294967296))) 4294967296))), IntKind.u64.wrap ((IntKind.u64.wrap ((IntKind.u64.wrap ((IntKind.u64.wrap ((Int.tmod a0 4294967296) * (IntKind.u64.wrap (Int.tdiv a1 4294967296)))) + (Int.tmod (IntKind.u64.wrap ((IntKind.u64.wrap ((IntKind.u64.wrap (Int.tdiv a0 4294967296)) * (Int.tmod a1 4294967296))) + (IntKind.u64.wrap (Int.tdiv (IntKind.u64.wrap ((Int.tmod a0 4294967296) * (Int.tmod a1 4294967296))) 4294967296)))) 4294967296))) * 4294967296)) + (Int.tmod (IntKind.u64.wrap ((Int.tmod a0 4294967296) * (Int.tmod a1 4294967296))) 4294967296)))) = some (r1, r2) := h
  clear h
  simp only [Option.some.injEq, Prod.mk.injEq] at H
  obtain ⟨rfl, rfl⟩ := H
  go_enter Try.func44, Try.ntmps44
  go_wp2
  go_ret2
  exact ⟨by first | rfl | (simp; done) | (simp [*]; done), by repeat (first | exact Drawn0.refl _ | apply Drawn0.step)⟩
end Go.Proofs.Ytokhgodcamhibaa.QFnExactDoBinary
end
