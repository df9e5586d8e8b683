/- Part 3 of the proof: general lemmas, contracts of functions, walks. No condition of its own. -/
import Derived.Deep.RegionWith
import Derived.Deep.RegionHeld3
import Derived.StillTailTactics
import Derived.Deep.DeepCutAuto
import Derived.Test.YtlhfhfamifmijaaD2
import Derived.Test.YtlhfhfamifmijaaK22
import Derived.Test.YtlhfhfamifmijaaK16
import Derived.Test.YtlhfhfamifmijaaK14
import Derived.Test.YtlhfhfamifmijaaK13
import Derived.Test.YtlhfhfamifmijaaK12
import Derived.Test.YtlhfhfamifmijaaK9
import Derived.Test.YtlhfhfamifmijaaK1
import Derived.Test.YtlhfhfamifmijaaD1
import Derived.Test.YtlhfhfamifmijaaK8
import Derived.Test.YtlhfhfamifmijaaK2
import Derived.Test.YtlhfhfamifmijaaK3
import Derived.Test.YtlhfhfamifmijaaK4
import Derived.Test.YtlhfhfamifmijaaK5
import Derived.Test.YtlhfhfamifmijaaK7
import Derived.Test.YtlhfhfamifmijaaK6
import Derived.Test.YtlhfhfamifmijaaK21
import Derived.Test.YtlhfhfamifmijaaK20
import Derived.Test.YtlhfhfamifmijaaK17
import Derived.Test.YtlhfhfamifmijaaK18
import Derived.Test.YtlhfhfamifmijaaK19
import Derived.Test.YtlhfhfamifmijaaK15
section
namespace Go.Proofs.Ytlhfhfamifmijaa.QFnExactDepthOf
open Go.RowKit Go.Proofs.YtlhfhfamifmijaaW.PrintWords Go.Proofs.YtlhfhfamifmijaaW.PrintLast Go.Proofs.YtlhfhfamifmijaaW.PrintMore
attribute [local go_sem] max_two min_two max_three min_three max_four min_four max2_mx min2_mn   -- for this text's walks alone
set_option linter.unusedVariables false
set_option linter.unusedSimpArgs false
mutual
def spec_l09Kids.j0 : Nat → List Int → Bool → Int → Int → Int → Int → List Int → List ByteArray → Int → Int → Int → Int → Int → Int → Int → Bool → Option (List Int)
  | 0, _, _, _, _, _, _, _, _, _, _, _, _, _, _, _, _ => none
  | k + 1, x4, x16, x203000, x203001, x203002, x203003, x203004, x203005, x203006, x203007, x210000, x210001, x210002, x210003, x210004, x210005 => if x16 = true then (if x4.length < 17592186044416 then (spec_l09Kids.j1 k (x4 ++ [x203001]) x203000 x203001 x203002 x203003 x203004 x203005 x203006 x203007 x210000 x210001 x210002 x210003 x210004 x210005) else (none)) else (spec_l09Kids.j1 k x4 x203000 x203001 x203002 x203003 x203004 x203005 x203006 x203007 x210000 x210001 x210002 x210003 x210004 x210005)
def spec_l09Kids.j1 : Nat → List Int → Int → Int → Int → Int → List Int → List ByteArray → Int → Int → Int → Int → Int → Int → Int → Bool → Option (List Int)
  | 0, _, _, _, _, _, _, _, _, _, _, _, _, _, _, _ => none
  | k + 1, x4, x203000, x203001, x203002, x203003, x203004, x203005, x203006, x203007, x210000, x210001, x210002, x210003, x210004, x210005 => if x210001 = 1 then (spec_l09Kids.j2 k x4 true x203000 x203001 x203002 x203003 x203004 x203005 x203006 x203007 x210000 x210001 x210002 x210003 x210004 x210005) else (spec_l09Kids.j2 k x4 (x210001 == 2) x203000 x203001 x203002 x203003 x203004 x203005 x203006 x203007 x210000 x210001 x210002 x210003 x210004 x210005)
def spec_l09Kids.j2 : Nat → List Int → Bool → Int → Int → Int → Int → List Int → List ByteArray → Int → Int → Int → Int → Int → Int → Int → Bool → Option (List Int)
  | 0, _, _, _, _, _, _, _, _, _, _, _, _, _, _, _, _ => none
  | k + 1, x4, x29, x203000, x203001, x203002, x203003, x203004, x203005, x203006, x203007, x210000, x210001, x210002, x210003, x210004, x210005 => if x29 = true then (if x4.length < 17592186044416 then ((some (x4 ++ [x203002] : List Int)).bind fun y216 => (if x210002 = 4 then (if x203003 ≥ 0 then (if y216.length < 17592186044416 then ((some (y216 ++ [x203003] : List Int)).bind fun y219 => (if y219.length + x203004.length < 17592186044416 then (some (y219 ++ x203004)) else (none))) else (none)) else (if y216.length + x203004.length < 17592186044416 then (some (y216 ++ x203004)) else (none))) else (if y216.length + x203004.length < 17592186044416 then (some (y216 ++ x203004)) else (none)))) else (none)) else (if x210002 = 4 then (if x203003 ≥ 0 then (if x4.length < 17592186044416 then ((some (x4 ++ [x203003] : List Int)).bind fun y231 => (if y231.length + x203004.length < 17592186044416 then (some (y231 ++ x203004)) else (none))) else (none)) else (if x4.length + x203004.length < 17592186044416 then (some (x4 ++ x203004)) else (none))) else (if x4.length + x203004.length < 17592186044416 then (some (x4 ++ x203004)) else (none)))
end
def spec_l09Kids.f (k : Nat) (a0_0 : Int) (a0_1 : Int) (a0_2 : Int) (a0_3 : Int) (l0_4 : List Int) (l0_5 : List ByteArray) (a0_6 : Int) (a0_7 : Int) : Option (List Int) := (spec_l09UseOf.f k a0_0).bind fun bt203 => ((some (([] : List Int) : List Int)).bind fun y210 => (if bt203.1 = 1 then (spec_l09Kids.j0 k y210 true a0_0 a0_1 a0_2 a0_3 l0_4 l0_5 a0_6 a0_7 bt203.1 bt203.2.1 bt203.2.2.1 bt203.2.2.2.1 bt203.2.2.2.2.1 bt203.2.2.2.2.2) else (spec_l09Kids.j0 k y210 (bt203.1 == 2) a0_0 a0_1 a0_2 a0_3 l0_4 l0_5 a0_6 a0_7 bt203.1 bt203.2.1 bt203.2.2.1 bt203.2.2.2.1 bt203.2.2.2.2.1 bt203.2.2.2.2.2)))
theorem spec_l09Kids.mono_l : ∀ k, (∀ y0 y1 y2 y3 y4 y5 y6 y7 y8 y9 y10 y11 y12 y13 y14 y15, LeO (spec_l09Kids.j0 k y0 y1 y2 y3 y4 y5 y6 y7 y8 y9 y10 y11 y12 y13 y14 y15) (spec_l09Kids.j0 (k + 1) y0 y1 y2 y3 y4 y5 y6 y7 y8 y9 y10 y11 y12 y13 y14 y15)) ∧ (∀ y0 y1 y2 y3 y4 y5 y6 y7 y8 y9 y10 y11 y12 y13 y14, LeO (spec_l09Kids.j1 k y0 y1 y2 y3 y4 y5 y6 y7 y8 y9 y10 y11 y12 y13 y14) (spec_l09Kids.j1 (k + 1) y0 y1 y2 y3 y4 y5 y6 y7 y8 y9 y10 y11 y12 y13 y14)) ∧ (∀ y0 y1 y2 y3 y4 y5 y6 y7 y8 y9 y10 y11 y12 y13 y14 y15, LeO (spec_l09Kids.j2 k y0 y1 y2 y3 y4 y5 y6 y7 y8 y9 y10 y11 y12 y13 y14 y15) (spec_l09Kids.j2 (k + 1) y0 y1 y2 y3 y4 y5 y6 y7 y8 y9 y10 y11 y12 y13 y14 y15))
  | 0 => ⟨fun _ _ _ _ _ _ _ _ _ _ _ _ _ _ _ _ r h => by simp [spec_l09Kids.j0] at h, fun _ _ _ _ _ _ _ _ _ _ _ _ _ _ _ r h => by simp [spec_l09Kids.j1] at h, fun _ _ _ _ _ _ _ _ _ _ _ _ _ _ _ _ r h => by simp [spec_l09Kids.j2] at h⟩
  | k + 1 => by
    obtain ⟨ih0, ih1, ih2⟩ := spec_l09Kids.mono_l k
    refine ⟨?_, ?_, ?_⟩
    · intro y0 y1 y2 y3 y4 y5 y6 y7 y8 y9 y10 y11 y12 y13 y14 y15
      unfold spec_l09Kids.j0
      repeat' first
      | (with_reducible exact ih0 _ _ _ _ _ _ _ _ _ _ _ _ _ _ _ _)
      | (with_reducible exact ih1 _ _ _ _ _ _ _ _ _ _ _ _ _ _ _)
      | (with_reducible exact ih2 _ _ _ _ _ _ _ _ _ _ _ _ _ _ _ _)
      | (with_reducible exact spec_l09UseOf.mono _ _)
      | (with_reducible exact LeO.refl _)
      | (with_reducible exact LeO.none _)
      | (with_reducible refine LeO.ite ?_ ?_)
      | (with_reducible refine LeO.bind ?_ (fun _ => ?_))
      | exact ih0 _ _ _ _ _ _ _ _ _ _ _ _ _ _ _ _
      | exact ih1 _ _ _ _ _ _ _ _ _ _ _ _ _ _ _
      | exact ih2 _ _ _ _ _ _ _ _ _ _ _ _ _ _ _ _
      | exact spec_l09UseOf.mono _ _
      | exact LeO.none _
      | refine LeO.ite ?_ ?_
      | refine LeO.bind ?_ (fun _ => ?_)
    · intro y0 y1 y2 y3 y4 y5 y6 y7 y8 y9 y10 y11 y12 y13 y14
      unfold spec_l09Kids.j1
      repeat' first
      | (with_reducible exact ih0 _ _ _ _ _ _ _ _ _ _ _ _ _ _ _ _)
      | (with_reducible exact ih1 _ _ _ _ _ _ _ _ _ _ _ _ _ _ _)
      | (with_reducible exact ih2 _ _ _ _ _ _ _ _ _ _ _ _ _ _ _ _)
      | (with_reducible exact spec_l09UseOf.mono _ _)
      | (with_reducible exact LeO.refl _)
      | (with_reducible exact LeO.none _)
      | (with_reducible refine LeO.ite ?_ ?_)
      | (with_reducible refine LeO.bind ?_ (fun _ => ?_))
      | exact ih0 _ _ _ _ _ _ _ _ _ _ _ _ _ _ _ _
      | exact ih1 _ _ _ _ _ _ _ _ _ _ _ _ _ _ _
      | exact ih2 _ _ _ _ _ _ _ _ _ _ _ _ _ _ _ _
      | exact spec_l09UseOf.mono _ _
      | exact LeO.none _
      | refine LeO.ite ?_ ?_
      | refine LeO.bind ?_ (fun _ => ?_)
    · intro y0 y1 y2 y3 y4 y5 y6 y7 y8 y9 y10 y11 y12 y13 y14 y15
      unfold spec_l09Kids.j2
      repeat' first
      | (with_reducible exact ih0 _ _ _ _ _ _ _ _ _ _ _ _ _ _ _ _)
      | (with_reducible exact ih1 _ _ _ _ _ _ _ _ _ _ _ _ _ _ _)
      | (with_reducible exact ih2 _ _ _ _ _ _ _ _ _ _ _ _ _ _ _ _)
      | (with_reducible exact spec_l09UseOf.mono _ _)
      | (with_reducible exact LeO.refl _)
      | (with_reducible exact LeO.none _)
      | (with_reducible refine LeO.ite ?_ ?_)
      | (with_reducible refine LeO.bind ?_ (fun _ => ?_))
      | exact ih0 _ _ _ _ _ _ _ _ _ _ _ _ _ _ _ _
      | exact ih1 _ _ _ _ _ _ _ _ _ _ _ _ _ _ _
      | exact ih2 _ _ _ _ _ _ _ _ _ _ _ _ _ _ _ _
      | exact spec_l09UseOf.mono _ _
      | exact LeO.none _
      | refine LeO.ite ?_ ?_
      | refine LeO.bind ?_ (fun _ => ?_)
theorem spec_l09Kids.mono : ∀ a0 a1 a2 a3 a4 a5 a6 a7 k, LeO (spec_l09Kids.f k a0 a1 a2 a3 a4 a5 a6 a7) (spec_l09Kids.f (k + 1) a0 a1 a2 a3 a4 a5 a6 a7) := by
  intro a0 a1 a2 a3 a4 a5 a6 a7 k
  obtain ⟨ih0, ih1, ih2⟩ := spec_l09Kids.mono_l k
  unfold spec_l09Kids.f
  repeat' first
      | (with_reducible exact ih0 _ _ _ _ _ _ _ _ _ _ _ _ _ _ _ _)
      | (with_reducible exact ih1 _ _ _ _ _ _ _ _ _ _ _ _ _ _ _)
      | (with_reducible exact ih2 _ _ _ _ _ _ _ _ _ _ _ _ _ _ _ _)
      | (with_reducible exact spec_l09UseOf.mono _ _)
      | (with_reducible exact LeO.refl _)
      | (with_reducible exact LeO.none _)
      | (with_reducible refine LeO.ite ?_ ?_)
      | (with_reducible refine LeO.bind ?_ (fun _ => ?_))
      | exact ih0 _ _ _ _ _ _ _ _ _ _ _ _ _ _ _ _
      | exact ih1 _ _ _ _ _ _ _ _ _ _ _ _ _ _ _
      | exact ih2 _ _ _ _ _ _ _ _ _ _ _ _ _ _ _ _
      | exact spec_l09UseOf.mono _ _
      | exact LeO.none _
      | refine LeO.ite ?_ ?_
      | refine LeO.bind ?_ (fun _ => ?_)
set_option maxHeartbeats 8000000 in
set_option maxRecDepth 100000 in
theorem spec_l09Kids.calls (k : Nat) (a0_0 : Int) (a0_1 : Int) (a0_2 : Int) (a0_3 : Int) (A0_4 : Option Addr) (c0_4 : Nat) (l0_4 : List Int) (A0_5 : Option Addr) (c0_5 : Nat) (l0_5 : List ByteArray) (a0_6 : Int) (a0_7 : Int) (r : List Int) (w : World) (hr0_4 : Kd.C (Kd.int .i64) w A0_4 l0_4.length l0_4) (hc0_4 : l0_4.length ≤ c0_4) (hr0_5 : Kd.C Kd.string w A0_5 l0_5.length l0_5) (hc0_5 : l0_5.length ≤ c0_5) (h : spec_l09Kids.f k a0_0 a0_1 a0_2 a0_3 l0_4 l0_5 a0_6 a0_7 = some r) :
    Calls Try.prog 112 #[.agg #[.int .i64 a0_0, .int .i64 a0_1, .int .i64 a0_2, .int .i64 a0_3, .slice A0_4 l0_4.length c0_4, .slice A0_5 l0_5.length c0_5, .int .u64 a0_6, .int .i64 a0_7]] w fun e w' => ∃ v0_ : Value, e = .returned (v0_) ∧ Kd.R (Kd.int .i64) 3 w' w.heap.size (fun _ => True) v0_ r ∧ Below w.heap.size w w' := by
  have hu142 := Try.underlying142
  have hu202 := Try.underlying202
  have HR0_4 := Aside0.mk hr0_4
  have HC0_4 := Aside0.mk hc0_4
  clear hr0_4 hc0_4
  have HR0_5 := Aside0.mk hr0_5
  have HC0_5 := Aside0.mk hc0_5
  clear hr0_5 hc0_5
  have HB := Aside0.mk (Below.refl w.heap.size w)
  have H : ((spec_l09UseOf.f k a0_0).bind fun bt203 => ((some (([] : List Int) : List Int)).bind fun y210 => (if bt203.1 = 1 then (spec_l09Kids.j0 k y210 true a0_0 a0_1 a0_2 a0_3 l0_4 l0_5 a0_6 a0_7 bt203.1 bt203.2.1 bt203.2.2.1 bt203.2.2.2.1 bt203.2.2.2.2.1 bt203.2.2.2.2.2) else (spec_l09Kids.j0 k y210 (bt203.1 == 2) a0_0 a0_1 a0_2 a0_3 l0_4 l0_5 a0_6 a0_7 bt203.1 bt203.2.1 bt203.2.2.1 bt203.2.2.2.1 bt203.2.2.2.2.1 bt203.2.2.2.2.2)))) = some r := h
  clear h
  replace H := Option.bind_eq_some_iff.mp H
  obtain ⟨⟨t203, t204, t205, t206, t207, t208⟩, A20, H⟩ := H
  replace H : ((some (([] : List Int) : List Int)).bind fun y210 => (if t203 = 1 then (spec_l09Kids.j0 k y210 true a0_0 a0_1 a0_2 a0_3 l0_4 l0_5 a0_6 a0_7 t203 t204 t205 t206 t207 t208) else (spec_l09Kids.j0 k y210 (t203 == 2) a0_0 a0_1 a0_2 a0_3 l0_4 l0_5 a0_6 a0_7 t203 t204 t205 t206 t207 t208))) = some r := H
  have A2 := Aside0.mk A20
  clear A20
  obtain ⟨y210, hy210⟩ : ∃ y_ : List Int, y_ = (([] : List Int)) := ⟨_, rfl⟩
  replace H : (if t203 = 1 then (spec_l09Kids.j0 k y210 true a0_0 a0_1 a0_2 a0_3 l0_4 l0_5 a0_6 a0_7 t203 t204 t205 t206 t207 t208) else (spec_l09Kids.j0 k y210 (t203 == 2) a0_0 a0_1 a0_2 a0_3 l0_4 l0_5 a0_6 a0_7 t203 t204 t205 t206 t207 t208)) = some r := by first | (rw [hy210]; with_reducible exact H) | (have H2_ := (Option.bind_some _ _).symm.trans H; rw [hy210]; with_reducible exact H2_) | (have H2_ := (Option.bind_some _ _).symm.trans H; with_reducible exact H2_) | with_reducible exact H | (rw [hy210]; exact H) | exact H
  have Ny210 := Aside0.mk hy210
  clear hy210
  have HC3 := Aside0.mk H
  clear H
  go_enter Try.func112, Try.ntmps112
  go_upto_region 3 with (first | ((with_reducible refine gate_dst (N := 1) rfl ?_); refine box_event ?hg (N := 1) ?hd (cs := #[.int .i64 a0_0, .int .i64 a0_1, .int .i64 a0_2, .int .i64 a0_3, .slice A0_4 l0_4.length c0_4, .slice A0_5 l0_5.length c0_5, .int .u64 a0_6, .int .i64 a0_7]) (t := 142) ?hr ?_; (case hd => rfl); (case hg => rfl); (case hr => first | (go_simp; done) | (go_simp; rfl)); intro gb202 hg w4 hbox hb; have n0_ := Aside0.mk (below_step (by repeat (first | (with_reducible first | exact HB.out | apply below_alloc | apply pw_below_drewN | apply below_drew1) | exact HB.out)) hb); have n1_ := Aside0.mk (hbox); have n2_ := Aside0.mk ((by rw [hg]; exact (below_size (by repeat (first | (with_reducible first | exact HB.out | apply below_alloc | apply pw_below_drewN | apply below_drew1) | exact HB.out))) : w.heap.size ≤ gb202)); have n3_ := Aside0.mk ((by rw [hg]; exact (below_size (by repeat (first | (with_reducible first | exact HB.out | apply below_alloc | apply pw_below_drewN | apply below_drew1) | exact HB.out))) : w.heap.size ≤ gb202)); clear HB; have HB := n0_; have BK202 := n1_; have GW202 := n2_; have GE202 := n3_; clear n0_ n1_ n2_ n3_; clear hb hbox hg; have hcz5_0 : w4.cell? ⟨gb202, 0, none⟩ = some (.int .i64 a0_0) := (blk_cell BK202.out 0).trans rfl; have hcz5_1 : w4.cell? ⟨gb202, 1, none⟩ = some (.int .i64 a0_1) := (blk_cell BK202.out 1).trans rfl; have hcz5_2 : w4.cell? ⟨gb202, 2, none⟩ = some (.int .i64 a0_2) := (blk_cell BK202.out 2).trans rfl; have hcz5_3 : w4.cell? ⟨gb202, 3, none⟩ = some (.int .i64 a0_3) := (blk_cell BK202.out 3).trans rfl; have hcz5_4 : w4.cell? ⟨gb202, 4, none⟩ = some (.slice A0_4 l0_4.length c0_4) := (blk_cell BK202.out 4).trans rfl; have hcz5_5 : w4.cell? ⟨gb202, 5, none⟩ = some (.slice A0_5 l0_5.length c0_5) := (blk_cell BK202.out 5).trans rfl; have hcz5_6 : w4.cell? ⟨gb202, 6, none⟩ = some (.int .u64 a0_6) := (blk_cell BK202.out 6).trans rfl; have hcz5_7 : w4.cell? ⟨gb202, 7, none⟩ = some (.int .i64 a0_7) := (blk_cell BK202.out 7).trans rfl; have hfz5_0 := blk_frozen BK202.out 0; have hfz5_1 := blk_frozen BK202.out 1; have hfz5_2 := blk_frozen BK202.out 2; have hfz5_3 := blk_frozen BK202.out 3; have hfz5_4 := blk_frozen BK202.out 4; have hfz5_5 := blk_frozen BK202.out 5; have hfz5_6 := blk_frozen BK202.out 6; have hfz5_7 := blk_frozen BK202.out 7) | ((with_reducible refine gate_callee (f := 155) rfl ?_); refine goesL_ (some 7) rfl rfl Try.func155 (by kernel_rfl) rfl #[.int .i64 a0_0] rfl (by (try simp only [List.map_toArray, List.map_cons, List.map_nil]); first | done | rfl | (simp only [List.length_drop, List.length_take]; rfl)) ?_; (with_reducible refine (spec_l09UseOf.calls k a0_0 t203 t204 t205 t206 t207 t208 _ A2.out).mono ?_); rintro e w6 ⟨rfl, hb⟩; refine ⟨_, rfl, ?_⟩; have n0_ := Aside0.mk (blk_below (g := gb202) (o := .cells #[.int .i64 a0_0, .int .i64 a0_1, .int .i64 a0_2, .int .i64 a0_3, .slice A0_4 l0_4.length c0_4, .slice A0_5 l0_5.length c0_5, .int .u64 a0_6, .int .i64 a0_7] 142 (0, 0)) (by (with_reducible repeat (first | refine blk_drewN ?_ _ | refine blk_drew ?_ | refine blk_alloc ?_ _)); exact BK202.out) hb); have n1_ := Aside0.mk (below_step (by repeat (first | (with_reducible first | exact HB.out | apply below_alloc | apply pw_below_drewN | apply below_drew1 | refine below_set ?_ GE202.out) | exact HB.out)) hb); clear BK202; clear HB; have BK202 := n0_; have HB := n1_; clear n0_ n1_; (try clear hb); (try clear hb2); (try clear hk); (try clear hi)) | ((with_reducible refine gate_dst (N := 3) rfl ?_); refine box_event ?hg (N := 3) ?hd (cs := #[.int .i64 0, .int .i64 0, .int .i64 0, .int .i64 0, .int .i64 0, .bool false]) (t := 202) ?hr ?_; (case hd => rfl); (case hg => rfl); (case hr => first | (go_simp; done) | (go_simp; rfl)); intro gb209 hg w7 hbox hb; have n0_ := Aside0.mk (blk_below (g := gb202) (o := .cells #[.int .i64 a0_0, .int .i64 a0_1, .int .i64 a0_2, .int .i64 a0_3, .slice A0_4 l0_4.length c0_4, .slice A0_5 l0_5.length c0_5, .int .u64 a0_6, .int .i64 a0_7] 142 (0, 0)) (by (with_reducible repeat (first | refine blk_drewN ?_ _ | refine blk_drew ?_ | refine blk_alloc ?_ _)); exact BK202.out) hb); have n1_ := Aside0.mk (below_step (by repeat (first | (with_reducible first | exact HB.out | apply below_alloc | apply pw_below_drewN | apply below_drew1 | refine below_set ?_ GE202.out) | exact HB.out)) hb); have n2_ := Aside0.mk (hbox); have n3_ := Aside0.mk ((by rw [hg]; exact (below_size (by repeat (first | (with_reducible first | exact HB.out | apply below_alloc | apply pw_below_drewN | apply below_drew1 | refine below_set ?_ GE202.out) | exact HB.out))) : w.heap.size ≤ gb209)); have n4_ := Aside0.mk ((by rw [hg]; exact (below_size (by repeat (first | (with_reducible first | exact HB.out | apply below_alloc | apply pw_below_drewN | apply below_drew1 | refine below_set ?_ GE202.out) | exact HB.out))) : w.heap.size ≤ gb209)); have n5_ := Aside0.mk ((by rw [hg]; exact Nat.ne_of_lt (blk_lt (g := gb202) (o := .cells #[.int .i64 a0_0, .int .i64 a0_1, .int .i64 a0_2, .int .i64 a0_3, .slice A0_4 l0_4.length c0_4, .slice A0_5 l0_5.length c0_5, .int .u64 a0_6, .int .i64 a0_7] 142 (0, 0)) (by (with_reducible repeat (first | refine blk_drewN ?_ _ | refine blk_drew ?_ | refine blk_alloc ?_ _)); exact BK202.out)) : gb202 ≠ gb209)); have n6_ := Aside0.mk ((by rw [hg]; exact Nat.ne_of_gt (blk_lt (g := gb202) (o := .cells #[.int .i64 a0_0, .int .i64 a0_1, .int .i64 a0_2, .int .i64 a0_3, .slice A0_4 l0_4.length c0_4, .slice A0_5 l0_5.length c0_5, .int .u64 a0_6, .int .i64 a0_7] 142 (0, 0)) (by (with_reducible repeat (first | refine blk_drewN ?_ _ | refine blk_drew ?_ | refine blk_alloc ?_ _)); exact BK202.out)) : gb209 ≠ gb202)); clear BK202; clear HB; have BK202 := n0_; have HB := n1_; have BK209 := n2_; have GW209 := n3_; have GE209 := n4_; have NB202_209 := n5_; have NB209_202 := n6_; clear n0_ n1_ n2_ n3_ n4_ n5_ n6_; clear hb hbox hg; have hnb8 := NB209_202.out; have hnc8 := NB202_209.out; have hcz9_0 : w7.cell? ⟨gb209, 0, none⟩ = some (.int .i64 0) := (blk_cell BK209.out 0).trans rfl; have hcz9_1 : w7.cell? ⟨gb209, 1, none⟩ = some (.int .i64 0) := (blk_cell BK209.out 1).trans rfl; have hcz9_2 : w7.cell? ⟨gb209, 2, none⟩ = some (.int .i64 0) := (blk_cell BK209.out 2).trans rfl; have hcz9_3 : w7.cell? ⟨gb209, 3, none⟩ = some (.int .i64 0) := (blk_cell BK209.out 3).trans rfl; have hcz9_4 : w7.cell? ⟨gb209, 4, none⟩ = some (.int .i64 0) := (blk_cell BK209.out 4).trans rfl; have hcz9_5 : w7.cell? ⟨gb209, 5, none⟩ = some (.bool false) := (blk_cell BK209.out 5).trans rfl; have hfz9_0 := blk_frozen BK209.out 0; have hfz9_1 := blk_frozen BK209.out 1; have hfz9_2 := blk_frozen BK209.out 2; have hfz9_3 := blk_frozen BK209.out 3; have hfz9_4 := blk_frozen BK209.out 4; have hfz9_5 := blk_frozen BK209.out 5) | ((with_reducible refine gate_dst (N := 8) rfl ?_); refine Kd.R_lit (Kd.int .i64) _ 3 ?hg (N := 8) ?hd (xs := ([] : List Int)) (inner := []) (ok := fun _ => True) (okp := fun _ => True) ?hr ?hp (fun _ hk => hk) trivial (Below.refl _ _) (Nat.le_refl _) (by simp) ?_; (case hd => rfl); (case hg => rfl); (case hr => first | (go_simp; done) | (go_simp; rfl)); (case hp => exact (Reps.none _ _)); intro v211 w10 ho11 hb hg_ hnew_; clear hg_ hnew_; (first | rw [← Ny210.out] at ho11 | (simp only [Int.reduceToNat] at ho11; rw [← Ny210.out] at ho11)); have n0_ := Aside0.mk (Kd.R_lower ho11 (below_size (by repeat (first | (with_reducible first | exact HB.out | apply below_alloc | apply pw_below_drewN | apply below_drew1 | refine below_set ?_ GE202.out | refine below_set ?_ GE209.out) | exact HB.out)))); have n1_ := Aside0.mk (blk_below (g := gb202) (o := .cells #[.int .i64 a0_0, .int .i64 a0_1, .int .i64 a0_2, .int .i64 a0_3, .slice A0_4 l0_4.length c0_4, .slice A0_5 l0_5.length c0_5, .int .u64 a0_6, .int .i64 a0_7] 142 (0, 0)) (by (with_reducible repeat (first | refine blk_drewN ?_ _ | refine blk_drew ?_ | refine blk_alloc ?_ _)); refine blk_far ?_ NB202_209.out _; (with_reducible repeat (first | refine blk_drewN ?_ _ | refine blk_drew ?_ | refine blk_alloc ?_ _)); refine blk_far ?_ NB202_209.out _; (with_reducible repeat (first | refine blk_drewN ?_ _ | refine blk_drew ?_ | refine blk_alloc ?_ _)); refine blk_far ?_ NB202_209.out _; (with_reducible repeat (first | refine blk_drewN ?_ _ | refine blk_drew ?_ | refine blk_alloc ?_ _)); refine blk_far ?_ NB202_209.out _; (with_reducible repeat (first | refine blk_drewN ?_ _ | refine blk_drew ?_ | refine blk_alloc ?_ _)); refine blk_far ?_ NB202_209.out _; (with_reducible repeat (first | refine blk_drewN ?_ _ | refine blk_drew ?_ | refine blk_alloc ?_ _)); refine blk_far ?_ NB202_209.out _; (with_reducible repeat (first | refine blk_drewN ?_ _ | refine blk_drew ?_ | refine blk_alloc ?_ _)); exact BK202.out) hb); have n2_ := Aside0.mk (blk_below (g := gb209) (o := .cells #[.int .i64 t203, .int .i64 t204, .int .i64 t205, .int .i64 t206, .int .i64 t207, .bool t208] 202 (0, 0)) (by (with_reducible repeat (first | refine blk_drewN ?_ _ | refine blk_drew ?_ | refine blk_alloc ?_ _)); refine blk_put (cs := #[.int .i64 t203, .int .i64 t204, .int .i64 t205, .int .i64 t206, .int .i64 t207, .bool false]) ?_ 5 _ rfl; (with_reducible repeat (first | refine blk_drewN ?_ _ | refine blk_drew ?_ | refine blk_alloc ?_ _)); refine blk_put (cs := #[.int .i64 t203, .int .i64 t204, .int .i64 t205, .int .i64 t206, .int .i64 0, .bool false]) ?_ 4 _ rfl; (with_reducible repeat (first | refine blk_drewN ?_ _ | refine blk_drew ?_ | refine blk_alloc ?_ _)); refine blk_put (cs := #[.int .i64 t203, .int .i64 t204, .int .i64 t205, .int .i64 0, .int .i64 0, .bool false]) ?_ 3 _ rfl; (with_reducible repeat (first | refine blk_drewN ?_ _ | refine blk_drew ?_ | refine blk_alloc ?_ _)); refine blk_put (cs := #[.int .i64 t203, .int .i64 t204, .int .i64 0, .int .i64 0, .int .i64 0, .bool false]) ?_ 2 _ rfl; (with_reducible repeat (first | refine blk_drewN ?_ _ | refine blk_drew ?_ | refine blk_alloc ?_ _)); refine blk_put (cs := #[.int .i64 t203, .int .i64 0, .int .i64 0, .int .i64 0, .int .i64 0, .bool false]) ?_ 1 _ rfl; (with_reducible repeat (first | refine blk_drewN ?_ _ | refine blk_drew ?_ | refine blk_alloc ?_ _)); refine blk_put (cs := #[.int .i64 0, .int .i64 0, .int .i64 0, .int .i64 0, .int .i64 0, .bool false]) ?_ 0 _ rfl; (with_reducible repeat (first | refine blk_drewN ?_ _ | refine blk_drew ?_ | refine blk_alloc ?_ _)); exact BK209.out) hb); have n3_ := Aside0.mk (below_step (by repeat (first | (with_reducible first | exact HB.out | apply below_alloc | apply pw_below_drewN | apply below_drew1 | refine below_set ?_ GE202.out | refine below_set ?_ GE209.out) | exact HB.out)) hb); clear BK202; clear BK209; clear HB; have HO212 := n0_; have BK202 := n1_; have BK209 := n2_; have HB := n3_; clear n0_ n1_ n2_ n3_; clear hb ho11))
  (try simp only [Act.put, List.setIfInBounds_toArray, List.set_cons_zero, List.set_cons_succ])
  go_cut [16] (fun v16 wc => ∃ (kq : Nat) (x16_2 : Bool), v16 = .bool x16_2 ∧ Aside0 (spec_l09Kids.j0 kq y210 x16_2 a0_0 a0_1 a0_2 a0_3 l0_4 l0_5 a0_6 a0_7 t203 t204 t205 t206 t207 t208 = some r) ∧ Aside0 (kq ≤ k) ∧ Aside0 (Kd.R (Kd.int .i64) 3 wc w.heap.size (fun _ => True) v211 y210) ∧ Aside0 (wc.heap[gb202]? = some (.cells #[.int .i64 a0_0, .int .i64 a0_1, .int .i64 a0_2, .int .i64 a0_3, (.slice A0_4 l0_4.length c0_4), (.slice A0_5 l0_5.length c0_5), .int .u64 a0_6, .int .i64 a0_7] 142 (0, 0))) ∧ Aside0 (wc.heap[gb209]? = some (.cells #[.int .i64 t203, .int .i64 t204, .int .i64 t205, .int .i64 t206, .int .i64 t207, .bool t208] 202 (0, 0))) ∧ Aside0 (Below w.heap.size w wc))
  case first =>
    have H := HC3.out
    clear HC3
    by_cases c12 : t203 = 1
    · rw [if_pos c12] at H
      have c12b0 : (t203 == 1) = true := beq_iff_eq.mpr c12
      have c12b1 : (t203 != 1) = false := bne_eq_false_iff_eq.mpr c12
      clear c12
      (first | rw [c12b0] | (simp only [i64_w, i32_w]; rw [c12b0]) | skip)
      have H' := Aside0.mk H
      clear H
      have hnb13 := NB209_202.out
      have hnc13 := NB202_209.out
      have hcz14_0 : w10.cell? ⟨gb209, 0, none⟩ = some (.int .i64 t203) := (blk_cell BK209.out 0).trans rfl
      have hcz14_1 : w10.cell? ⟨gb209, 1, none⟩ = some (.int .i64 t204) := (blk_cell BK209.out 1).trans rfl
      have hcz14_2 : w10.cell? ⟨gb209, 2, none⟩ = some (.int .i64 t205) := (blk_cell BK209.out 2).trans rfl
      have hcz14_3 : w10.cell? ⟨gb209, 3, none⟩ = some (.int .i64 t206) := (blk_cell BK209.out 3).trans rfl
      have hcz14_4 : w10.cell? ⟨gb209, 4, none⟩ = some (.int .i64 t207) := (blk_cell BK209.out 4).trans rfl
      have hcz14_5 : w10.cell? ⟨gb209, 5, none⟩ = some (.bool t208) := (blk_cell BK209.out 5).trans rfl
      have hfz14_0 := blk_frozen BK209.out 0
      have hfz14_1 := blk_frozen BK209.out 1
      have hfz14_2 := blk_frozen BK209.out 2
      have hfz14_3 := blk_frozen BK209.out 3
      have hfz14_4 := blk_frozen BK209.out 4
      have hfz14_5 := blk_frozen BK209.out 5
      go_wp2
      go_meet
      case rel => exact ⟨_, (true), (by first | rfl | (simp; done) | (simp [*]; done)), H', ⟨by first | omega | exact Nat.le_refl _⟩, ⟨by (with_reducible repeat (first | apply Kd.R_alloc | apply Kd.R_drewN | apply Kd.R_drew)); exact HO212.out⟩, ⟨by (with_reducible repeat (first | refine blk_drewN ?_ _ | refine blk_drew ?_ | refine blk_alloc ?_ _)); exact BK202.out⟩, ⟨by (with_reducible repeat (first | refine blk_drewN ?_ _ | refine blk_drew ?_ | refine blk_alloc ?_ _)); exact BK209.out⟩, ⟨by repeat (first | (with_reducible first | exact HB.out | apply below_alloc | apply pw_below_drewN | apply below_drew1 | refine below_set ?_ GE202.out | refine below_set ?_ GE209.out) | exact HB.out)⟩⟩
    · rw [if_neg c12] at H
      have c12b0 : (t203 == 1) = false := beq_eq_false_iff_ne.mpr c12
      have c12b1 : (t203 != 1) = true := bne_iff_ne.mpr c12
      (first | rw [c12b0] | (simp only [i64_w, i32_w]; rw [c12b0]) | skip)
      have H' := Aside0.mk H
      clear H
      have hnb15 := NB209_202.out
      have hnc15 := NB202_209.out
      have hcz16_0 : w10.cell? ⟨gb209, 0, none⟩ = some (.int .i64 t203) := (blk_cell BK209.out 0).trans rfl
      have hcz16_1 : w10.cell? ⟨gb209, 1, none⟩ = some (.int .i64 t204) := (blk_cell BK209.out 1).trans rfl
      have hcz16_2 : w10.cell? ⟨gb209, 2, none⟩ = some (.int .i64 t205) := (blk_cell BK209.out 2).trans rfl
      have hcz16_3 : w10.cell? ⟨gb209, 3, none⟩ = some (.int .i64 t206) := (blk_cell BK209.out 3).trans rfl
      have hcz16_4 : w10.cell? ⟨gb209, 4, none⟩ = some (.int .i64 t207) := (blk_cell BK209.out 4).trans rfl
      have hcz16_5 : w10.cell? ⟨gb209, 5, none⟩ = some (.bool t208) := (blk_cell BK209.out 5).trans rfl
      have hfz16_0 := blk_frozen BK209.out 0
      have hfz16_1 := blk_frozen BK209.out 1
      have hfz16_2 := blk_frozen BK209.out 2
      have hfz16_3 := blk_frozen BK209.out 3
      have hfz16_4 := blk_frozen BK209.out 4
      have hfz16_5 := blk_frozen BK209.out 5
      go_wp2
      go_meet
      case rel => exact ⟨_, ((t203 == 2)), (by first | rfl | (simp; done) | (simp [*]; done)), H', ⟨by first | omega | exact Nat.le_refl _⟩, ⟨by (with_reducible repeat (first | apply Kd.R_alloc | apply Kd.R_drewN | apply Kd.R_drew)); exact HO212.out⟩, ⟨by (with_reducible repeat (first | refine blk_drewN ?_ _ | refine blk_drew ?_ | refine blk_alloc ?_ _)); exact BK202.out⟩, ⟨by (with_reducible repeat (first | refine blk_drewN ?_ _ | refine blk_drew ?_ | refine blk_alloc ?_ _)); exact BK209.out⟩, ⟨by repeat (first | (with_reducible first | exact HB.out | apply below_alloc | apply pw_below_drewN | apply below_drew1 | refine below_set ?_ GE202.out | refine below_set ?_ GE209.out) | exact HB.out)⟩⟩
  case rest =>
    clear HC3
    try clear c1
    try clear p2
    try clear c8
    try clear c11
    try clear c12
    try clear c12b0
    try clear c12b1
    try clear c13
    try clear c15
    try clear hcz14_0
    try clear hcz14_1
    try clear hcz14_2
    try clear hcz14_3
    try clear hcz14_4
    try clear hcz14_5
    try clear hcz16_0
    try clear hcz16_1
    try clear hcz16_2
    try clear hcz16_3
    try clear hcz16_4
    try clear hcz16_5
    try clear hcz5_0
    try clear hcz5_1
    try clear hcz5_2
    try clear hcz5_3
    try clear hcz5_4
    try clear hcz5_5
    try clear hcz5_6
    try clear hcz5_7
    try clear hcz9_0
    try clear hcz9_1
    try clear hcz9_2
    try clear hcz9_3
    try clear hcz9_4
    try clear hcz9_5
    try clear hfz14_0
    try clear hfz14_1
    try clear hfz14_2
    try clear hfz14_3
    try clear hfz14_4
    try clear hfz14_5
    try clear hfz16_0
    try clear hfz16_1
    try clear hfz16_2
    try clear hfz16_3
    try clear hfz16_4
    try clear hfz16_5
    try clear hfz5_0
    try clear hfz5_1
    try clear hfz5_2
    try clear hfz5_3
    try clear hfz5_4
    try clear hfz5_5
    try clear hfz5_6
    try clear hfz5_7
    try clear hfz9_0
    try clear hfz9_1
    try clear hfz9_2
    try clear hfz9_3
    try clear hfz9_4
    try clear hfz9_5
    obtain ⟨kq, x16_2, rfl, HA, HJ2, HO_4, BK202, BK209, HB⟩ := hcut
    cases kq with
    | zero => exact absurd HA.out (by simp [spec_l09Kids.j0])
    | succ kj2 =>
      have H := HA.out
      clear HA
      simp only [spec_l09Kids.j0] at H
      have HC17 := Aside0.mk H
      clear H
      go_upto_if 16 with (fail)
      go_cut [4] (fun v4 wc => ∃ (kq : Nat) (x4_16 : List Int), Aside0 (spec_l09Kids.j1 kq x4_16 a0_0 a0_1 a0_2 a0_3 l0_4 l0_5 a0_6 a0_7 t203 t204 t205 t206 t207 t208 = some r) ∧ Aside0 (kq ≤ kj2) ∧ Aside0 (Kd.R (Kd.int .i64) 3 wc w.heap.size (fun _ => True) v4 x4_16) ∧ Aside0 (wc.heap[gb202]? = some (.cells #[.int .i64 a0_0, .int .i64 a0_1, .int .i64 a0_2, .int .i64 a0_3, (.slice A0_4 l0_4.length c0_4), (.slice A0_5 l0_5.length c0_5), .int .u64 a0_6, .int .i64 a0_7] 142 (0, 0))) ∧ Aside0 (wc.heap[gb209]? = some (.cells #[.int .i64 t203, .int .i64 t204, .int .i64 t205, .int .i64 t206, .int .i64 t207, .bool t208] 202 (0, 0))) ∧ Aside0 (Below w.heap.size w wc))
      case first =>
        have H := HC17.out
        clear HC17
        by_cases c18 : x16_2 = true
        · subst c18
          have H1 : (if y210.length < 17592186044416 then (spec_l09Kids.j1 kj2 (y210 ++ [a0_1]) a0_0 a0_1 a0_2 a0_3 l0_4 l0_5 a0_6 a0_7 t203 t204 t205 t206 t207 t208) else (none)) = some r := by rw [if_pos rfl] at H; exact H
          clear H
          have H := H1
          clear H1
          by_cases c19 : y210.length < 17592186044416
          · rw [if_pos c19] at H
            have LMc19 := Aside0.mk c19
            clear c19
            obtain ⟨y213, hy213⟩ : ∃ y_ : List Int, y_ = (y210 ++ [a0_1]) := ⟨_, rfl⟩
            replace H : (spec_l09Kids.j1 kj2 y213 a0_0 a0_1 a0_2 a0_3 l0_4 l0_5 a0_6 a0_7 t203 t204 t205 t206 t207 t208) = some r := by first | (rw [hy213]; with_reducible exact H) | (have H2_ := (Option.bind_some _ _).symm.trans H; rw [hy213]; with_reducible exact H2_) | (have H2_ := (Option.bind_some _ _).symm.trans H; with_reducible exact H2_) | with_reducible exact H | (rw [hy213]; exact H) | exact H
            have Ny213 := Aside0.mk hy213
            clear hy213
            have H' := Aside0.mk H
            clear H
            have hnb20 := NB202_209.out
            have hnc20 := NB209_202.out
            have hcz21_0 : wc.cell? ⟨gb202, 0, none⟩ = some (.int .i64 a0_0) := (blk_cell BK202.out 0).trans rfl
            have hcz21_1 : wc.cell? ⟨gb202, 1, none⟩ = some (.int .i64 a0_1) := (blk_cell BK202.out 1).trans rfl
            have hcz21_2 : wc.cell? ⟨gb202, 2, none⟩ = some (.int .i64 a0_2) := (blk_cell BK202.out 2).trans rfl
            have hcz21_3 : wc.cell? ⟨gb202, 3, none⟩ = some (.int .i64 a0_3) := (blk_cell BK202.out 3).trans rfl
            have hcz21_4 : wc.cell? ⟨gb202, 4, none⟩ = some (.slice A0_4 l0_4.length c0_4) := (blk_cell BK202.out 4).trans rfl
            have hcz21_5 : wc.cell? ⟨gb202, 5, none⟩ = some (.slice A0_5 l0_5.length c0_5) := (blk_cell BK202.out 5).trans rfl
            have hcz21_6 : wc.cell? ⟨gb202, 6, none⟩ = some (.int .u64 a0_6) := (blk_cell BK202.out 6).trans rfl
            have hcz21_7 : wc.cell? ⟨gb202, 7, none⟩ = some (.int .i64 a0_7) := (blk_cell BK202.out 7).trans rfl
            have hfz21_0 := blk_frozen BK202.out 0
            have hfz21_1 := blk_frozen BK202.out 1
            have hfz21_2 := blk_frozen BK202.out 2
            have hfz21_3 := blk_frozen BK202.out 3
            have hfz21_4 := blk_frozen BK202.out 4
            have hfz21_5 := blk_frozen BK202.out 5
            have hfz21_6 := blk_frozen BK202.out 6
            have hfz21_7 := blk_frozen BK202.out 7
            go_wp2_with (first | ((with_reducible refine gate_builtin (b := .append) (xs := #[.tmp 17, .tmp 20]) rfl ?_); at_builtin; refine Kd.R_append (Kd.int .i64) (w0 := w) w.heap.size rfl (.tmp 17) (.tmp 20) 26 3 (.int .i64 0) 8 rfl Try.underlying26 info3 rfl (by decide) (by omega) v211 y210 a0_1 [.int .i64 a0_1] (fun _ => True) (fun _ => False) rfl rfl ?aP (fun _ hk => hk.elim) ?aF ?aO ?aB ?aS ?aL ?_; (case aP => exact rfl); (case aB => exact (by repeat (first | (with_reducible first | exact HB.out | apply below_alloc | apply pw_below_drewN | apply below_drew1 | refine below_set ?_ GE202.out | refine below_set ?_ GE209.out) | exact HB.out))); (case aF => exact (fun _ _ => trivial)); (case aO => exact (by (with_reducible repeat (first | apply Kd.R_alloc | apply Kd.R_drewN | apply Kd.R_drew)); exact HO_4.out)); (case aS => exact (below_size (by repeat (first | (with_reducible first | exact HB.out | apply below_alloc | apply pw_below_drewN | apply below_drew1 | refine below_set ?_ GE202.out | refine below_set ?_ GE209.out) | exact HB.out)))); (case aL => have := LMc19.out; omega); intro v214 w22 ho hb hg hat; rw [← Ny213.out] at ho; have n0_ := Aside0.mk (blk_grown (g := gb202) (o := .cells #[.int .i64 a0_0, .int .i64 a0_1, .int .i64 a0_2, .int .i64 a0_3, .slice A0_4 l0_4.length c0_4, .slice A0_5 l0_5.length c0_5, .int .u64 a0_6, .int .i64 a0_7] 142 (0, 0)) (by (with_reducible repeat (first | refine blk_drewN ?_ _ | refine blk_drew ?_ | refine blk_alloc ?_ _)); exact BK202.out) hg (Kd.R_ne HO_4.out BK202.out (by decide))); have n1_ := Aside0.mk (blk_grown (g := gb209) (o := .cells #[.int .i64 t203, .int .i64 t204, .int .i64 t205, .int .i64 t206, .int .i64 t207, .bool t208] 202 (0, 0)) (by (with_reducible repeat (first | refine blk_drewN ?_ _ | refine blk_drew ?_ | refine blk_alloc ?_ _)); exact BK209.out) hg (Kd.R_ne HO_4.out BK209.out (by decide))); have n2_ := Aside0.mk (hb); have n3_ := Aside0.mk (ho); clear BK202; clear BK209; clear HB; clear HO_4; have BK202 := n0_; have BK209 := n1_; have HB := n2_; have HO215 := n3_; clear n0_ n1_ n2_ n3_; clear ho hb hg hat))
            go_meet
            case rel => exact ⟨_, (y213), H', ⟨by have := HJ2.out; first | omega | exact Nat.le_refl _⟩, ⟨by (with_reducible repeat (first | apply Kd.R_alloc | apply Kd.R_drewN | apply Kd.R_drew)); exact HO215.out⟩, ⟨by (with_reducible repeat (first | refine blk_drewN ?_ _ | refine blk_drew ?_ | refine blk_alloc ?_ _)); exact BK202.out⟩, ⟨by (with_reducible repeat (first | refine blk_drewN ?_ _ | refine blk_drew ?_ | refine blk_alloc ?_ _)); exact BK209.out⟩, ⟨by repeat (first | (with_reducible first | exact HB.out | apply below_alloc | apply pw_below_drewN | apply below_drew1 | refine below_set ?_ GE202.out | refine below_set ?_ GE209.out) | exact HB.out)⟩⟩
          · rw [if_neg c19] at H
            exact absurd H (by simp)
        · replace c18 := Bool.eq_false_iff.mpr c18
          subst c18
          have H1 : (spec_l09Kids.j1 kj2 y210 a0_0 a0_1 a0_2 a0_3 l0_4 l0_5 a0_6 a0_7 t203 t204 t205 t206 t207 t208) = some r := by rw [if_neg (show ¬ (false = true) by decide)] at H; exact H
          clear H
          have H := H1
          clear H1
          have H' := Aside0.mk H
          clear H
          go_wp2
          go_meet
          case rel => exact ⟨_, (y210), H', ⟨by have := HJ2.out; first | omega | exact Nat.le_refl _⟩, ⟨by (with_reducible repeat (first | apply Kd.R_alloc | apply Kd.R_drewN | apply Kd.R_drew)); exact HO_4.out⟩, ⟨by (with_reducible repeat (first | refine blk_drewN ?_ _ | refine blk_drew ?_ | refine blk_alloc ?_ _)); exact BK202.out⟩, ⟨by (with_reducible repeat (first | refine blk_drewN ?_ _ | refine blk_drew ?_ | refine blk_alloc ?_ _)); exact BK209.out⟩, ⟨by repeat (first | (with_reducible first | exact HB.out | apply below_alloc | apply pw_below_drewN | apply below_drew1 | refine below_set ?_ GE202.out | refine below_set ?_ GE209.out) | exact HB.out)⟩⟩
      case rest =>
        clear HC17
        try clear c1
        try clear c2
        try clear p2
        try clear c8
        try clear c11
        try clear c12
        try clear c12b0
        try clear c12b1
        try clear c13
        try clear c15
        try clear c18
        try clear c19
        try clear c20
        try clear hcz14_0
        try clear hcz14_1
        try clear hcz14_2
        try clear hcz14_3
        try clear hcz14_4
        try clear hcz14_5
        try clear hcz16_0
        try clear hcz16_1
        try clear hcz16_2
        try clear hcz16_3
        try clear hcz16_4
        try clear hcz16_5
        try clear hcz21_0
        try clear hcz21_1
        try clear hcz21_2
        try clear hcz21_3
        try clear hcz21_4
        try clear hcz21_5
        try clear hcz21_6
        try clear hcz21_7
        try clear hcz5_0
        try clear hcz5_1
        try clear hcz5_2
        try clear hcz5_3
        try clear hcz5_4
        try clear hcz5_5
        try clear hcz5_6
        try clear hcz5_7
        try clear hcz9_0
        try clear hcz9_1
        try clear hcz9_2
        try clear hcz9_3
        try clear hcz9_4
        try clear hcz9_5
        try clear hfz14_0
        try clear hfz14_1
        try clear hfz14_2
        try clear hfz14_3
        try clear hfz14_4
        try clear hfz14_5
        try clear hfz16_0
        try clear hfz16_1
        try clear hfz16_2
        try clear hfz16_3
        try clear hfz16_4
        try clear hfz16_5
        try clear hfz21_0
        try clear hfz21_1
        try clear hfz21_2
        try clear hfz21_3
        try clear hfz21_4
        try clear hfz21_5
        try clear hfz21_6
        try clear hfz21_7
        try clear hfz5_0
        try clear hfz5_1
        try clear hfz5_2
        try clear hfz5_3
        try clear hfz5_4
        try clear hfz5_5
        try clear hfz5_6
        try clear hfz5_7
        try clear hfz9_0
        try clear hfz9_1
        try clear hfz9_2
        try clear hfz9_3
        try clear hfz9_4
        try clear hfz9_5
        try clear p2
        obtain ⟨kq, x4_16, HA, HJ16, HO_4, BK202, BK209, HB⟩ := hcut
        cases kq with
        | zero => exact absurd HA.out (by simp [spec_l09Kids.j1])
        | succ kj16 =>
          have H := HA.out
          clear HA
          simp only [spec_l09Kids.j1] at H
          have HC23 := Aside0.mk H
          clear H
          go_upto_region 5 with (fail)
          go_cut [29] (fun v29 wc => ∃ (kq : Nat) (x29_22 : Bool), v29 = .bool x29_22 ∧ Aside0 (spec_l09Kids.j2 kq x4_16 x29_22 a0_0 a0_1 a0_2 a0_3 l0_4 l0_5 a0_6 a0_7 t203 t204 t205 t206 t207 t208 = some r) ∧ Aside0 (kq ≤ kj16) ∧ Aside0 (Kd.R (Kd.int .i64) 3 wc w.heap.size (fun _ => True) u4 x4_16) ∧ Aside0 (wc.heap[gb202]? = some (.cells #[.int .i64 a0_0, .int .i64 a0_1, .int .i64 a0_2, .int .i64 a0_3, (.slice A0_4 l0_4.length c0_4), (.slice A0_5 l0_5.length c0_5), .int .u64 a0_6, .int .i64 a0_7] 142 (0, 0))) ∧ Aside0 (wc.heap[gb209]? = some (.cells #[.int .i64 t203, .int .i64 t204, .int .i64 t205, .int .i64 t206, .int .i64 t207, .bool t208] 202 (0, 0))) ∧ Aside0 (Below w.heap.size w wc))
          case first =>
            have H := HC23.out
            clear HC23
            by_cases c24 : t204 = 1
            · rw [if_pos c24] at H
              have c24b0 : (t204 == 1) = true := beq_iff_eq.mpr c24
              have c24b1 : (t204 != 1) = false := bne_eq_false_iff_eq.mpr c24
              clear c24
              (first | rw [c24b0] | (simp only [i64_w, i32_w]; rw [c24b0]) | skip)
              have H' := Aside0.mk H
              clear H
              have hnb25 := NB209_202.out
              have hnc25 := NB202_209.out
              have hcz26_0 : wc.cell? ⟨gb209, 0, none⟩ = some (.int .i64 t203) := (blk_cell BK209.out 0).trans rfl
              have hcz26_1 : wc.cell? ⟨gb209, 1, none⟩ = some (.int .i64 t204) := (blk_cell BK209.out 1).trans rfl
              have hcz26_2 : wc.cell? ⟨gb209, 2, none⟩ = some (.int .i64 t205) := (blk_cell BK209.out 2).trans rfl
              have hcz26_3 : wc.cell? ⟨gb209, 3, none⟩ = some (.int .i64 t206) := (blk_cell BK209.out 3).trans rfl
              have hcz26_4 : wc.cell? ⟨gb209, 4, none⟩ = some (.int .i64 t207) := (blk_cell BK209.out 4).trans rfl
              have hcz26_5 : wc.cell? ⟨gb209, 5, none⟩ = some (.bool t208) := (blk_cell BK209.out 5).trans rfl
              have hfz26_0 := blk_frozen BK209.out 0
              have hfz26_1 := blk_frozen BK209.out 1
              have hfz26_2 := blk_frozen BK209.out 2
              have hfz26_3 := blk_frozen BK209.out 3
              have hfz26_4 := blk_frozen BK209.out 4
              have hfz26_5 := blk_frozen BK209.out 5
              go_wp2
              go_meet
              case rel => exact ⟨_, (true), (by first | rfl | (simp; done) | (simp [*]; done)), H', ⟨by have := HJ2.out; have := HJ16.out; first | omega | exact Nat.le_refl _⟩, ⟨by (with_reducible repeat (first | apply Kd.R_alloc | apply Kd.R_drewN | apply Kd.R_drew)); exact HO_4.out⟩, ⟨by (with_reducible repeat (first | refine blk_drewN ?_ _ | refine blk_drew ?_ | refine blk_alloc ?_ _)); exact BK202.out⟩, ⟨by (with_reducible repeat (first | refine blk_drewN ?_ _ | refine blk_drew ?_ | refine blk_alloc ?_ _)); exact BK209.out⟩, ⟨by repeat (first | (with_reducible first | exact HB.out | apply below_alloc | apply pw_below_drewN | apply below_drew1 | refine below_set ?_ GE202.out | refine below_set ?_ GE209.out) | exact HB.out)⟩⟩
            · rw [if_neg c24] at H
              have c24b0 : (t204 == 1) = false := beq_eq_false_iff_ne.mpr c24
              have c24b1 : (t204 != 1) = true := bne_iff_ne.mpr c24
              (first | rw [c24b0] | (simp only [i64_w, i32_w]; rw [c24b0]) | skip)
              have H' := Aside0.mk H
              clear H
              have hnb27 := NB209_202.out
              have hnc27 := NB202_209.out
              have hcz28_0 : wc.cell? ⟨gb209, 0, none⟩ = some (.int .i64 t203) := (blk_cell BK209.out 0).trans rfl
              have hcz28_1 : wc.cell? ⟨gb209, 1, none⟩ = some (.int .i64 t204) := (blk_cell BK209.out 1).trans rfl
              have hcz28_2 : wc.cell? ⟨gb209, 2, none⟩ = some (.int .i64 t205) := (blk_cell BK209.out 2).trans rfl
              have hcz28_3 : wc.cell? ⟨gb209, 3, none⟩ = some (.int .i64 t206) := (blk_cell BK209.out 3).trans rfl
              have hcz28_4 : wc.cell? ⟨gb209, 4, none⟩ = some (.int .i64 t207) := (blk_cell BK209.out 4).trans rfl
              have hcz28_5 : wc.cell? ⟨gb209, 5, none⟩ = some (.bool t208) := (blk_cell BK209.out 5).trans rfl
              have hfz28_0 := blk_frozen BK209.out 0
              have hfz28_1 := blk_frozen BK209.out 1
              have hfz28_2 := blk_frozen BK209.out 2
              have hfz28_3 := blk_frozen BK209.out 3
              have hfz28_4 := blk_frozen BK209.out 4
              have hfz28_5 := blk_frozen BK209.out 5
              go_wp2
              go_meet
              case rel => exact ⟨_, ((t204 == 2)), (by first | rfl | (simp; done) | (simp [*]; done)), H', ⟨by have := HJ2.out; have := HJ16.out; first | omega | exact Nat.le_refl _⟩, ⟨by (with_reducible repeat (first | apply Kd.R_alloc | apply Kd.R_drewN | apply Kd.R_drew)); exact HO_4.out⟩, ⟨by (with_reducible repeat (first | refine blk_drewN ?_ _ | refine blk_drew ?_ | refine blk_alloc ?_ _)); exact BK202.out⟩, ⟨by (with_reducible repeat (first | refine blk_drewN ?_ _ | refine blk_drew ?_ | refine blk_alloc ?_ _)); exact BK209.out⟩, ⟨by repeat (first | (with_reducible first | exact HB.out | apply below_alloc | apply pw_below_drewN | apply below_drew1 | refine below_set ?_ GE202.out | refine below_set ?_ GE209.out) | exact HB.out)⟩⟩
          case rest =>
            clear HC23
            try clear c1
            try clear c2
            try clear p2
            try clear c8
            try clear c11
            try clear c12
            try clear c12b0
            try clear c12b1
            try clear c13
            try clear c15
            try clear c18
            try clear c19
            try clear c20
            try clear c24
            try clear c24b0
            try clear c24b1
            try clear c25
            try clear c27
            try clear hcz14_0
            try clear hcz14_1
            try clear hcz14_2
            try clear hcz14_3
            try clear hcz14_4
            try clear hcz14_5
            try clear hcz16_0
            try clear hcz16_1
            try clear hcz16_2
            try clear hcz16_3
            try clear hcz16_4
            try clear hcz16_5
            try clear hcz21_0
            try clear hcz21_1
            try clear hcz21_2
            try clear hcz21_3
            try clear hcz21_4
            try clear hcz21_5
            try clear hcz21_6
            try clear hcz21_7
            try clear hcz26_0
            try clear hcz26_1
            try clear hcz26_2
            try clear hcz26_3
            try clear hcz26_4
            try clear hcz26_5
            try clear hcz28_0
            try clear hcz28_1
            try clear hcz28_2
            try clear hcz28_3
            try clear hcz28_4
            try clear hcz28_5
            try clear hcz5_0
            try clear hcz5_1
            try clear hcz5_2
            try clear hcz5_3
            try clear hcz5_4
            try clear hcz5_5
            try clear hcz5_6
            try clear hcz5_7
            try clear hcz9_0
            try clear hcz9_1
            try clear hcz9_2
            try clear hcz9_3
            try clear hcz9_4
            try clear hcz9_5
            try clear hfz14_0
            try clear hfz14_1
            try clear hfz14_2
            try clear hfz14_3
            try clear hfz14_4
            try clear hfz14_5
            try clear hfz16_0
            try clear hfz16_1
            try clear hfz16_2
            try clear hfz16_3
            try clear hfz16_4
            try clear hfz16_5
            try clear hfz21_0
            try clear hfz21_1
            try clear hfz21_2
            try clear hfz21_3
            try clear hfz21_4
            try clear hfz21_5
            try clear hfz21_6
            try clear hfz21_7
            try clear hfz26_0
            try clear hfz26_1
            try clear hfz26_2
            try clear hfz26_3
            try clear hfz26_4
            try clear hfz26_5
            try clear hfz28_0
            try clear hfz28_1
            try clear hfz28_2
            try clear hfz28_3
            try clear hfz28_4
            try clear hfz28_5
            try clear hfz5_0
            try clear hfz5_1
            try clear hfz5_2
            try clear hfz5_3
            try clear hfz5_4
            try clear hfz5_5
            try clear hfz5_6
            try clear hfz5_7
            try clear hfz9_0
            try clear hfz9_1
            try clear hfz9_2
            try clear hfz9_3
            try clear hfz9_4
            try clear hfz9_5
            try clear p2
            obtain ⟨kq, x29_22, rfl, HA, HJ22, HO_4, BK202, BK209, HB⟩ := hcut
            cases kq with
            | zero => exact absurd HA.out (by simp [spec_l09Kids.j2])
            | succ kj22 =>
              have H := HA.out
              clear HA
              simp only [spec_l09Kids.j2] at H
              by_cases c29 : x29_22 = true
              · subst c29
                have H1 : (if x4_16.length < 17592186044416 then ((some (x4_16 ++ [a0_2] : List Int)).bind fun y216 => (if t205 = 4 then (if a0_3 ≥ 0 then (if y216.length < 17592186044416 then ((some (y216 ++ [a0_3] : List Int)).bind fun y219 => (if y219.length + l0_4.length < 17592186044416 then (some (y219 ++ l0_4)) else (none))) else (none)) else (if y216.length + l0_4.length < 17592186044416 then (some (y216 ++ l0_4)) else (none))) else (if y216.length + l0_4.length < 17592186044416 then (some (y216 ++ l0_4)) else (none)))) else (none)) = some r := by rw [if_pos rfl] at H; exact H
                clear H
                have H := H1
                clear H1
                by_cases c30 : x4_16.length < 17592186044416
                · rw [if_pos c30] at H
                  have LMc30 := Aside0.mk c30
                  clear c30
                  obtain ⟨y216, hy216⟩ : ∃ y_ : List Int, y_ = (x4_16 ++ [a0_2]) := ⟨_, rfl⟩
                  replace H : (if t205 = 4 then (if a0_3 ≥ 0 then (if y216.length < 17592186044416 then ((some (y216 ++ [a0_3] : List Int)).bind fun y219 => (if y219.length + l0_4.length < 17592186044416 then (some (y219 ++ l0_4)) else (none))) else (none)) else (if y216.length + l0_4.length < 17592186044416 then (some (y216 ++ l0_4)) else (none))) else (if y216.length + l0_4.length < 17592186044416 then (some (y216 ++ l0_4)) else (none))) = some r := by first | (rw [hy216]; with_reducible exact H) | (have H2_ := (Option.bind_some _ _).symm.trans H; rw [hy216]; with_reducible exact H2_) | (have H2_ := (Option.bind_some _ _).symm.trans H; with_reducible exact H2_) | with_reducible exact H | (rw [hy216]; exact H) | exact H
                  have Ny216 := Aside0.mk hy216
                  clear hy216
                  by_cases c31 : t205 = 4
                  · rw [if_pos c31] at H
                    have c31b0 : (t205 == 4) = true := beq_iff_eq.mpr c31
                    have c31b1 : (t205 != 4) = false := bne_eq_false_iff_eq.mpr c31
                    clear c31
                    by_cases c32 : a0_3 ≥ 0
                    · rw [if_pos c32] at H
                      have c32b0 : decide (0 ≤ a0_3) = true := decide_eq_true c32
                      clear c32
                      by_cases c33 : y216.length < 17592186044416
                      · rw [if_pos c33] at H
                        have LMc33 := Aside0.mk c33
                        clear c33
                        obtain ⟨y219, hy219⟩ : ∃ y_ : List Int, y_ = (y216 ++ [a0_3]) := ⟨_, rfl⟩
                        replace H : (if y219.length + l0_4.length < 17592186044416 then (some (y219 ++ l0_4)) else (none)) = some r := by first | (rw [hy219]; with_reducible exact H) | (have H2_ := (Option.bind_some _ _).symm.trans H; rw [hy219]; with_reducible exact H2_) | (have H2_ := (Option.bind_some _ _).symm.trans H; with_reducible exact H2_) | with_reducible exact H | (rw [hy219]; exact H) | exact H
                        have Ny219 := Aside0.mk hy219
                        clear hy219
                        by_cases c34 : y219.length + l0_4.length < 17592186044416
                        · rw [if_pos c34] at H
                          have LMc34 := Aside0.mk c34
                          clear c34
                          obtain ⟨y222, hy222⟩ : ∃ y_ : List Int, y_ = (y219 ++ l0_4) := ⟨_, rfl⟩
                          replace H : (some y222) = some r := by first | (rw [hy222]; with_reducible exact H) | (have H2_ := (Option.bind_some _ _).symm.trans H; rw [hy222]; with_reducible exact H2_) | (have H2_ := (Option.bind_some _ _).symm.trans H; with_reducible exact H2_) | with_reducible exact H | (rw [hy222]; exact H) | exact H
                          have Ny222 := Aside0.mk hy222
                          clear hy222
                          obtain rfl := Option.some.inj H
                          have hnb35 := NB202_209.out
                          have hnc35 := NB209_202.out
                          have hcz36_0 : wc.cell? ⟨gb202, 0, none⟩ = some (.int .i64 a0_0) := (blk_cell BK202.out 0).trans rfl
                          have hcz36_1 : wc.cell? ⟨gb202, 1, none⟩ = some (.int .i64 a0_1) := (blk_cell BK202.out 1).trans rfl
                          have hcz36_2 : wc.cell? ⟨gb202, 2, none⟩ = some (.int .i64 a0_2) := (blk_cell BK202.out 2).trans rfl
                          have hcz36_3 : wc.cell? ⟨gb202, 3, none⟩ = some (.int .i64 a0_3) := (blk_cell BK202.out 3).trans rfl
                          have hcz36_4 : wc.cell? ⟨gb202, 4, none⟩ = some (.slice A0_4 l0_4.length c0_4) := (blk_cell BK202.out 4).trans rfl
                          have hcz36_5 : wc.cell? ⟨gb202, 5, none⟩ = some (.slice A0_5 l0_5.length c0_5) := (blk_cell BK202.out 5).trans rfl
                          have hcz36_6 : wc.cell? ⟨gb202, 6, none⟩ = some (.int .u64 a0_6) := (blk_cell BK202.out 6).trans rfl
                          have hcz36_7 : wc.cell? ⟨gb202, 7, none⟩ = some (.int .i64 a0_7) := (blk_cell BK202.out 7).trans rfl
                          have hfz36_0 := blk_frozen BK202.out 0
                          have hfz36_1 := blk_frozen BK202.out 1
                          have hfz36_2 := blk_frozen BK202.out 2
                          have hfz36_3 := blk_frozen BK202.out 3
                          have hfz36_4 := blk_frozen BK202.out 4
                          have hfz36_5 := blk_frozen BK202.out 5
                          have hfz36_6 := blk_frozen BK202.out 6
                          have hfz36_7 := blk_frozen BK202.out 7
                          go_wp2_with (first | ((with_reducible refine gate_builtin (b := .append) (xs := #[.tmp 30, .tmp 33]) rfl ?_); at_builtin; refine Kd.R_append (Kd.int .i64) (w0 := w) w.heap.size rfl (.tmp 30) (.tmp 33) 26 3 (.int .i64 0) 8 rfl Try.underlying26 info3 rfl (by decide) (by omega) u4 x4_16 a0_2 [.int .i64 a0_2] (fun _ => True) (fun _ => False) rfl rfl ?aP (fun _ hk => hk.elim) ?aF ?aO ?aB ?aS ?aL ?_; (case aP => exact rfl); (case aB => exact (by repeat (first | (with_reducible first | exact HB.out | apply below_alloc | apply pw_below_drewN | apply below_drew1 | refine below_set ?_ GE202.out | refine below_set ?_ GE209.out) | exact HB.out))); (case aF => exact (fun _ _ => trivial)); (case aO => exact (by (with_reducible repeat (first | apply Kd.R_alloc | apply Kd.R_drewN | apply Kd.R_drew)); exact HO_4.out)); (case aS => exact (below_size (by repeat (first | (with_reducible first | exact HB.out | apply below_alloc | apply pw_below_drewN | apply below_drew1 | refine below_set ?_ GE202.out | refine below_set ?_ GE209.out) | exact HB.out)))); (case aL => have := LMc30.out; omega); intro v217 w37 ho hb hg hat; rw [← Ny216.out] at ho; have n0_ := Aside0.mk (blk_grown (g := gb202) (o := .cells #[.int .i64 a0_0, .int .i64 a0_1, .int .i64 a0_2, .int .i64 a0_3, .slice A0_4 l0_4.length c0_4, .slice A0_5 l0_5.length c0_5, .int .u64 a0_6, .int .i64 a0_7] 142 (0, 0)) (by (with_reducible repeat (first | refine blk_drewN ?_ _ | refine blk_drew ?_ | refine blk_alloc ?_ _)); exact BK202.out) hg (Kd.R_ne HO_4.out BK202.out (by decide))); have n1_ := Aside0.mk (blk_grown (g := gb209) (o := .cells #[.int .i64 t203, .int .i64 t204, .int .i64 t205, .int .i64 t206, .int .i64 t207, .bool t208] 202 (0, 0)) (by (with_reducible repeat (first | refine blk_drewN ?_ _ | refine blk_drew ?_ | refine blk_alloc ?_ _)); exact BK209.out) hg (Kd.R_ne HO_4.out BK209.out (by decide))); have n2_ := Aside0.mk (hb); have n3_ := Aside0.mk (ho); clear BK202; clear BK209; clear HB; clear HO_4; have BK202 := n0_; have BK209 := n1_; have HB := n2_; have HO218 := n3_; clear n0_ n1_ n2_ n3_; clear ho hb hg hat; have hcz38_0 : w37.cell? ⟨gb209, 0, none⟩ = some (.int .i64 t203) := (blk_cell BK209.out 0).trans rfl; have hcz38_1 : w37.cell? ⟨gb209, 1, none⟩ = some (.int .i64 t204) := (blk_cell BK209.out 1).trans rfl; have hcz38_2 : w37.cell? ⟨gb209, 2, none⟩ = some (.int .i64 t205) := (blk_cell BK209.out 2).trans rfl; have hcz38_3 : w37.cell? ⟨gb209, 3, none⟩ = some (.int .i64 t206) := (blk_cell BK209.out 3).trans rfl; have hcz38_4 : w37.cell? ⟨gb209, 4, none⟩ = some (.int .i64 t207) := (blk_cell BK209.out 4).trans rfl; have hcz38_5 : w37.cell? ⟨gb209, 5, none⟩ = some (.bool t208) := (blk_cell BK209.out 5).trans rfl; have hfz38_0 := blk_frozen BK209.out 0; have hfz38_1 := blk_frozen BK209.out 1; have hfz38_2 := blk_frozen BK209.out 2; have hfz38_3 := blk_frozen BK209.out 3; have hfz38_4 := blk_frozen BK209.out 4; have hfz38_5 := blk_frozen BK209.out 5; have hcz39_0 : w37.cell? ⟨gb202, 0, none⟩ = some (.int .i64 a0_0) := (blk_cell BK202.out 0).trans rfl; have hcz39_1 : w37.cell? ⟨gb202, 1, none⟩ = some (.int .i64 a0_1) := (blk_cell BK202.out 1).trans rfl; have hcz39_2 : w37.cell? ⟨gb202, 2, none⟩ = some (.int .i64 a0_2) := (blk_cell BK202.out 2).trans rfl; have hcz39_3 : w37.cell? ⟨gb202, 3, none⟩ = some (.int .i64 a0_3) := (blk_cell BK202.out 3).trans rfl; have hcz39_4 : w37.cell? ⟨gb202, 4, none⟩ = some (.slice A0_4 l0_4.length c0_4) := (blk_cell BK202.out 4).trans rfl; have hcz39_5 : w37.cell? ⟨gb202, 5, none⟩ = some (.slice A0_5 l0_5.length c0_5) := (blk_cell BK202.out 5).trans rfl; have hcz39_6 : w37.cell? ⟨gb202, 6, none⟩ = some (.int .u64 a0_6) := (blk_cell BK202.out 6).trans rfl; have hcz39_7 : w37.cell? ⟨gb202, 7, none⟩ = some (.int .i64 a0_7) := (blk_cell BK202.out 7).trans rfl; have hfz39_0 := blk_frozen BK202.out 0; have hfz39_1 := blk_frozen BK202.out 1; have hfz39_2 := blk_frozen BK202.out 2; have hfz39_3 := blk_frozen BK202.out 3; have hfz39_4 := blk_frozen BK202.out 4; have hfz39_5 := blk_frozen BK202.out 5; have hfz39_6 := blk_frozen BK202.out 6; have hfz39_7 := blk_frozen BK202.out 7) | ((with_reducible refine gate_builtin (b := .append) (xs := #[.tmp 43, .tmp 46]) rfl ?_); at_builtin; refine Kd.R_append (Kd.int .i64) (w0 := w) w.heap.size rfl (.tmp 43) (.tmp 46) 26 3 (.int .i64 0) 8 rfl Try.underlying26 info3 rfl (by decide) (by omega) v217 y216 a0_3 [.int .i64 a0_3] (fun _ => True) (fun _ => False) rfl rfl ?aP (fun _ hk => hk.elim) ?aF ?aO ?aB ?aS ?aL ?_; (case aP => exact rfl); (case aB => exact (by repeat (first | (with_reducible first | exact HB.out | apply below_alloc | apply pw_below_drewN | apply below_drew1 | refine below_set ?_ GE202.out | refine below_set ?_ GE209.out) | exact HB.out))); (case aF => exact (fun _ _ => trivial)); (case aO => exact (by (with_reducible repeat (first | apply Kd.R_alloc | apply Kd.R_drewN | apply Kd.R_drew)); exact HO218.out)); (case aS => exact (below_size (by repeat (first | (with_reducible first | exact HB.out | apply below_alloc | apply pw_below_drewN | apply below_drew1 | refine below_set ?_ GE202.out | refine below_set ?_ GE209.out) | exact HB.out)))); (case aL => have := LMc33.out; omega); intro v220 w40 ho hb hg hat; rw [← Ny219.out] at ho; have n0_ := Aside0.mk (blk_grown (g := gb202) (o := .cells #[.int .i64 a0_0, .int .i64 a0_1, .int .i64 a0_2, .int .i64 a0_3, .slice A0_4 l0_4.length c0_4, .slice A0_5 l0_5.length c0_5, .int .u64 a0_6, .int .i64 a0_7] 142 (0, 0)) (by (with_reducible repeat (first | refine blk_drewN ?_ _ | refine blk_drew ?_ | refine blk_alloc ?_ _)); exact BK202.out) hg (Kd.R_ne HO218.out BK202.out (by decide))); have n1_ := Aside0.mk (blk_grown (g := gb209) (o := .cells #[.int .i64 t203, .int .i64 t204, .int .i64 t205, .int .i64 t206, .int .i64 t207, .bool t208] 202 (0, 0)) (by (with_reducible repeat (first | refine blk_drewN ?_ _ | refine blk_drew ?_ | refine blk_alloc ?_ _)); exact BK209.out) hg (Kd.R_ne HO218.out BK209.out (by decide))); have n2_ := Aside0.mk (hb); have n3_ := Aside0.mk (ho); clear BK202; clear BK209; clear HB; clear HO218; have BK202 := n0_; have BK209 := n1_; have HB := n2_; have HO221 := n3_; clear n0_ n1_ n2_ n3_; clear ho hb hg hat; have hcz41_0 : w40.cell? ⟨gb202, 0, none⟩ = some (.int .i64 a0_0) := (blk_cell BK202.out 0).trans rfl; have hcz41_1 : w40.cell? ⟨gb202, 1, none⟩ = some (.int .i64 a0_1) := (blk_cell BK202.out 1).trans rfl; have hcz41_2 : w40.cell? ⟨gb202, 2, none⟩ = some (.int .i64 a0_2) := (blk_cell BK202.out 2).trans rfl; have hcz41_3 : w40.cell? ⟨gb202, 3, none⟩ = some (.int .i64 a0_3) := (blk_cell BK202.out 3).trans rfl; have hcz41_4 : w40.cell? ⟨gb202, 4, none⟩ = some (.slice A0_4 l0_4.length c0_4) := (blk_cell BK202.out 4).trans rfl; have hcz41_5 : w40.cell? ⟨gb202, 5, none⟩ = some (.slice A0_5 l0_5.length c0_5) := (blk_cell BK202.out 5).trans rfl; have hcz41_6 : w40.cell? ⟨gb202, 6, none⟩ = some (.int .u64 a0_6) := (blk_cell BK202.out 6).trans rfl; have hcz41_7 : w40.cell? ⟨gb202, 7, none⟩ = some (.int .i64 a0_7) := (blk_cell BK202.out 7).trans rfl; have hfz41_0 := blk_frozen BK202.out 0; have hfz41_1 := blk_frozen BK202.out 1; have hfz41_2 := blk_frozen BK202.out 2; have hfz41_3 := blk_frozen BK202.out 3; have hfz41_4 := blk_frozen BK202.out 4; have hfz41_5 := blk_frozen BK202.out 5; have hfz41_6 := blk_frozen BK202.out 6; have hfz41_7 := blk_frozen BK202.out 7) | ((with_reducible refine gate_builtin (b := .append) (xs := #[.tmp 48, .tmp 50]) rfl ?_); at_builtin; refine Kd.R_append_rows (Kd.int .i64) (w0 := w) w.heap.size rfl (.tmp 48) (.tmp 50) 26 3 (.int .i64 0) 8 rfl Try.underlying26 info3 rfl (by decide) (by omega) v220 y219 l0_4 _ _ _ (fun _ => True) (fun _ => False) rfl rfl ?aO ?aR (fun _ _ h => h) (fun _ h => h.elim) ?aF ?aB ?aS ?aL ?_; (case aR => repeat (first | exact (Kd.C_below HR0_4.out HB.out) | (with_reducible refine Kd.C_alloc ?_ _) | (with_reducible refine Kd.C_drewN ?_ _) | (with_reducible refine Kd.C_drew ?_))); (case aB => exact (by repeat (first | (with_reducible first | exact HB.out | apply below_alloc | apply pw_below_drewN | apply below_drew1 | refine below_set ?_ GE202.out | refine below_set ?_ GE209.out) | exact HB.out))); (case aF => exact (fun _ _ => trivial)); (case aO => exact (by (with_reducible repeat (first | apply Kd.R_alloc | apply Kd.R_drewN | apply Kd.R_drew)); exact HO221.out)); (case aS => exact (below_size (by repeat (first | (with_reducible first | exact HB.out | apply below_alloc | apply pw_below_drewN | apply below_drew1 | refine below_set ?_ GE202.out | refine below_set ?_ GE209.out) | exact HB.out)))); (case aL => have := LMc34.out; omega); intro v223 w42 ho hb hg hat; rw [← Ny222.out] at ho; have n0_ := Aside0.mk (blk_grown (g := gb202) (o := .cells #[.int .i64 a0_0, .int .i64 a0_1, .int .i64 a0_2, .int .i64 a0_3, .slice A0_4 l0_4.length c0_4, .slice A0_5 l0_5.length c0_5, .int .u64 a0_6, .int .i64 a0_7] 142 (0, 0)) (by (with_reducible repeat (first | refine blk_drewN ?_ _ | refine blk_drew ?_ | refine blk_alloc ?_ _)); exact BK202.out) hg (Kd.R_ne HO221.out BK202.out (by decide))); have n1_ := Aside0.mk (blk_grown (g := gb209) (o := .cells #[.int .i64 t203, .int .i64 t204, .int .i64 t205, .int .i64 t206, .int .i64 t207, .bool t208] 202 (0, 0)) (by (with_reducible repeat (first | refine blk_drewN ?_ _ | refine blk_drew ?_ | refine blk_alloc ?_ _)); exact BK209.out) hg (Kd.R_ne HO221.out BK209.out (by decide))); have n2_ := Aside0.mk (hb); have n3_ := Aside0.mk (ho); clear BK202; clear BK209; clear HB; clear HO221; have BK202 := n0_; have BK209 := n1_; have HB := n2_; have HO224 := n3_; clear n0_ n1_ n2_ n3_; clear ho hb hg hat))
                          go_ret
                          exact ⟨_, by first | rfl | (simp [errW_none, errW_some] <;> rfl) | (simp [*, errW_none, errW_some] <;> rfl), by (with_reducible repeat (first | apply Kd.R_alloc | apply Kd.R_drewN | apply Kd.R_drew)); exact HO224.out, by repeat (first | (with_reducible first | exact HB.out | apply below_alloc | apply pw_below_drewN | apply below_drew1 | refine below_set ?_ GE202.out | refine below_set ?_ GE209.out) | exact HB.out)⟩
                        · rw [if_neg c34] at H
                          exact absurd H (by simp)
                      · rw [if_neg c33] at H
                        exact absurd H (by simp)
                    · rw [if_neg c32] at H
                      have c32b0 : decide (0 ≤ a0_3) = false := decide_eq_false c32
                      clear c32
                      by_cases c43 : y216.length + l0_4.length < 17592186044416
                      · rw [if_pos c43] at H
                        have LMc43 := Aside0.mk c43
                        clear c43
                        obtain ⟨y225, hy225⟩ : ∃ y_ : List Int, y_ = (y216 ++ l0_4) := ⟨_, rfl⟩
                        replace H : (some y225) = some r := by first | (rw [hy225]; with_reducible exact H) | (have H2_ := (Option.bind_some _ _).symm.trans H; rw [hy225]; with_reducible exact H2_) | (have H2_ := (Option.bind_some _ _).symm.trans H; with_reducible exact H2_) | with_reducible exact H | (rw [hy225]; exact H) | exact H
                        have Ny225 := Aside0.mk hy225
                        clear hy225
                        obtain rfl := Option.some.inj H
                        have hnb44 := NB202_209.out
                        have hnc44 := NB209_202.out
                        have hcz45_0 : wc.cell? ⟨gb202, 0, none⟩ = some (.int .i64 a0_0) := (blk_cell BK202.out 0).trans rfl
                        have hcz45_1 : wc.cell? ⟨gb202, 1, none⟩ = some (.int .i64 a0_1) := (blk_cell BK202.out 1).trans rfl
                        have hcz45_2 : wc.cell? ⟨gb202, 2, none⟩ = some (.int .i64 a0_2) := (blk_cell BK202.out 2).trans rfl
                        have hcz45_3 : wc.cell? ⟨gb202, 3, none⟩ = some (.int .i64 a0_3) := (blk_cell BK202.out 3).trans rfl
                        have hcz45_4 : wc.cell? ⟨gb202, 4, none⟩ = some (.slice A0_4 l0_4.length c0_4) := (blk_cell BK202.out 4).trans rfl
                        have hcz45_5 : wc.cell? ⟨gb202, 5, none⟩ = some (.slice A0_5 l0_5.length c0_5) := (blk_cell BK202.out 5).trans rfl
                        have hcz45_6 : wc.cell? ⟨gb202, 6, none⟩ = some (.int .u64 a0_6) := (blk_cell BK202.out 6).trans rfl
                        have hcz45_7 : wc.cell? ⟨gb202, 7, none⟩ = some (.int .i64 a0_7) := (blk_cell BK202.out 7).trans rfl
                        have hfz45_0 := blk_frozen BK202.out 0
                        have hfz45_1 := blk_frozen BK202.out 1
                        have hfz45_2 := blk_frozen BK202.out 2
                        have hfz45_3 := blk_frozen BK202.out 3
                        have hfz45_4 := blk_frozen BK202.out 4
                        have hfz45_5 := blk_frozen BK202.out 5
                        have hfz45_6 := blk_frozen BK202.out 6
                        have hfz45_7 := blk_frozen BK202.out 7
                        go_wp2_with (first | ((with_reducible refine gate_builtin (b := .append) (xs := #[.tmp 30, .tmp 33]) rfl ?_); at_builtin; refine Kd.R_append (Kd.int .i64) (w0 := w) w.heap.size rfl (.tmp 30) (.tmp 33) 26 3 (.int .i64 0) 8 rfl Try.underlying26 info3 rfl (by decide) (by omega) u4 x4_16 a0_2 [.int .i64 a0_2] (fun _ => True) (fun _ => False) rfl rfl ?aP (fun _ hk => hk.elim) ?aF ?aO ?aB ?aS ?aL ?_; (case aP => exact rfl); (case aB => exact (by repeat (first | (with_reducible first | exact HB.out | apply below_alloc | apply pw_below_drewN | apply below_drew1 | refine below_set ?_ GE202.out | refine below_set ?_ GE209.out) | exact HB.out))); (case aF => exact (fun _ _ => trivial)); (case aO => exact (by (with_reducible repeat (first | apply Kd.R_alloc | apply Kd.R_drewN | apply Kd.R_drew)); exact HO_4.out)); (case aS => exact (below_size (by repeat (first | (with_reducible first | exact HB.out | apply below_alloc | apply pw_below_drewN | apply below_drew1 | refine below_set ?_ GE202.out | refine below_set ?_ GE209.out) | exact HB.out)))); (case aL => have := LMc30.out; omega); intro v217 w46 ho hb hg hat; rw [← Ny216.out] at ho; have n0_ := Aside0.mk (blk_grown (g := gb202) (o := .cells #[.int .i64 a0_0, .int .i64 a0_1, .int .i64 a0_2, .int .i64 a0_3, .slice A0_4 l0_4.length c0_4, .slice A0_5 l0_5.length c0_5, .int .u64 a0_6, .int .i64 a0_7] 142 (0, 0)) (by (with_reducible repeat (first | refine blk_drewN ?_ _ | refine blk_drew ?_ | refine blk_alloc ?_ _)); exact BK202.out) hg (Kd.R_ne HO_4.out BK202.out (by decide))); have n1_ := Aside0.mk (blk_grown (g := gb209) (o := .cells #[.int .i64 t203, .int .i64 t204, .int .i64 t205, .int .i64 t206, .int .i64 t207, .bool t208] 202 (0, 0)) (by (with_reducible repeat (first | refine blk_drewN ?_ _ | refine blk_drew ?_ | refine blk_alloc ?_ _)); exact BK209.out) hg (Kd.R_ne HO_4.out BK209.out (by decide))); have n2_ := Aside0.mk (hb); have n3_ := Aside0.mk (ho); clear BK202; clear BK209; clear HB; clear HO_4; have BK202 := n0_; have BK209 := n1_; have HB := n2_; have HO218 := n3_; clear n0_ n1_ n2_ n3_; clear ho hb hg hat; have hcz47_0 : w46.cell? ⟨gb209, 0, none⟩ = some (.int .i64 t203) := (blk_cell BK209.out 0).trans rfl; have hcz47_1 : w46.cell? ⟨gb209, 1, none⟩ = some (.int .i64 t204) := (blk_cell BK209.out 1).trans rfl; have hcz47_2 : w46.cell? ⟨gb209, 2, none⟩ = some (.int .i64 t205) := (blk_cell BK209.out 2).trans rfl; have hcz47_3 : w46.cell? ⟨gb209, 3, none⟩ = some (.int .i64 t206) := (blk_cell BK209.out 3).trans rfl; have hcz47_4 : w46.cell? ⟨gb209, 4, none⟩ = some (.int .i64 t207) := (blk_cell BK209.out 4).trans rfl; have hcz47_5 : w46.cell? ⟨gb209, 5, none⟩ = some (.bool t208) := (blk_cell BK209.out 5).trans rfl; have hfz47_0 := blk_frozen BK209.out 0; have hfz47_1 := blk_frozen BK209.out 1; have hfz47_2 := blk_frozen BK209.out 2; have hfz47_3 := blk_frozen BK209.out 3; have hfz47_4 := blk_frozen BK209.out 4; have hfz47_5 := blk_frozen BK209.out 5; have hcz48_0 : w46.cell? ⟨gb202, 0, none⟩ = some (.int .i64 a0_0) := (blk_cell BK202.out 0).trans rfl; have hcz48_1 : w46.cell? ⟨gb202, 1, none⟩ = some (.int .i64 a0_1) := (blk_cell BK202.out 1).trans rfl; have hcz48_2 : w46.cell? ⟨gb202, 2, none⟩ = some (.int .i64 a0_2) := (blk_cell BK202.out 2).trans rfl; have hcz48_3 : w46.cell? ⟨gb202, 3, none⟩ = some (.int .i64 a0_3) := (blk_cell BK202.out 3).trans rfl; have hcz48_4 : w46.cell? ⟨gb202, 4, none⟩ = some (.slice A0_4 l0_4.length c0_4) := (blk_cell BK202.out 4).trans rfl; have hcz48_5 : w46.cell? ⟨gb202, 5, none⟩ = some (.slice A0_5 l0_5.length c0_5) := (blk_cell BK202.out 5).trans rfl; have hcz48_6 : w46.cell? ⟨gb202, 6, none⟩ = some (.int .u64 a0_6) := (blk_cell BK202.out 6).trans rfl; have hcz48_7 : w46.cell? ⟨gb202, 7, none⟩ = some (.int .i64 a0_7) := (blk_cell BK202.out 7).trans rfl; have hfz48_0 := blk_frozen BK202.out 0; have hfz48_1 := blk_frozen BK202.out 1; have hfz48_2 := blk_frozen BK202.out 2; have hfz48_3 := blk_frozen BK202.out 3; have hfz48_4 := blk_frozen BK202.out 4; have hfz48_5 := blk_frozen BK202.out 5; have hfz48_6 := blk_frozen BK202.out 6; have hfz48_7 := blk_frozen BK202.out 7) | ((with_reducible refine gate_builtin (b := .append) (xs := #[.tmp 48, .tmp 50]) rfl ?_); at_builtin; refine Kd.R_append_rows (Kd.int .i64) (w0 := w) w.heap.size rfl (.tmp 48) (.tmp 50) 26 3 (.int .i64 0) 8 rfl Try.underlying26 info3 rfl (by decide) (by omega) v217 y216 l0_4 _ _ _ (fun _ => True) (fun _ => False) rfl rfl ?aO ?aR (fun _ _ h => h) (fun _ h => h.elim) ?aF ?aB ?aS ?aL ?_; (case aR => repeat (first | exact (Kd.C_below HR0_4.out HB.out) | (with_reducible refine Kd.C_alloc ?_ _) | (with_reducible refine Kd.C_drewN ?_ _) | (with_reducible refine Kd.C_drew ?_))); (case aB => exact (by repeat (first | (with_reducible first | exact HB.out | apply below_alloc | apply pw_below_drewN | apply below_drew1 | refine below_set ?_ GE202.out | refine below_set ?_ GE209.out) | exact HB.out))); (case aF => exact (fun _ _ => trivial)); (case aO => exact (by (with_reducible repeat (first | apply Kd.R_alloc | apply Kd.R_drewN | apply Kd.R_drew)); exact HO218.out)); (case aS => exact (below_size (by repeat (first | (with_reducible first | exact HB.out | apply below_alloc | apply pw_below_drewN | apply below_drew1 | refine below_set ?_ GE202.out | refine below_set ?_ GE209.out) | exact HB.out)))); (case aL => have := LMc43.out; omega); intro v226 w49 ho hb hg hat; rw [← Ny225.out] at ho; have n0_ := Aside0.mk (blk_grown (g := gb202) (o := .cells #[.int .i64 a0_0, .int .i64 a0_1, .int .i64 a0_2, .int .i64 a0_3, .slice A0_4 l0_4.length c0_4, .slice A0_5 l0_5.length c0_5, .int .u64 a0_6, .int .i64 a0_7] 142 (0, 0)) (by (with_reducible repeat (first | refine blk_drewN ?_ _ | refine blk_drew ?_ | refine blk_alloc ?_ _)); exact BK202.out) hg (Kd.R_ne HO218.out BK202.out (by decide))); have n1_ := Aside0.mk (blk_grown (g := gb209) (o := .cells #[.int .i64 t203, .int .i64 t204, .int .i64 t205, .int .i64 t206, .int .i64 t207, .bool t208] 202 (0, 0)) (by (with_reducible repeat (first | refine blk_drewN ?_ _ | refine blk_drew ?_ | refine blk_alloc ?_ _)); exact BK209.out) hg (Kd.R_ne HO218.out BK209.out (by decide))); have n2_ := Aside0.mk (hb); have n3_ := Aside0.mk (ho); clear BK202; clear BK209; clear HB; clear HO218; have BK202 := n0_; have BK209 := n1_; have HB := n2_; have HO227 := n3_; clear n0_ n1_ n2_ n3_; clear ho hb hg hat))
                        go_ret
                        exact ⟨_, by first | rfl | (simp [errW_none, errW_some] <;> rfl) | (simp [*, errW_none, errW_some] <;> rfl), by (with_reducible repeat (first | apply Kd.R_alloc | apply Kd.R_drewN | apply Kd.R_drew)); exact HO227.out, by repeat (first | (with_reducible first | exact HB.out | apply below_alloc | apply pw_below_drewN | apply below_drew1 | refine below_set ?_ GE202.out | refine below_set ?_ GE209.out) | exact HB.out)⟩
                      · rw [if_neg c43] at H
                        exact absurd H (by simp)
                  · rw [if_neg c31] at H
                    have c31b0 : (t205 == 4) = false := beq_eq_false_iff_ne.mpr c31
                    have c31b1 : (t205 != 4) = true := bne_iff_ne.mpr c31
                    by_cases c50 : y216.length + l0_4.length < 17592186044416
                    · rw [if_pos c50] at H
                      have LMc50 := Aside0.mk c50
                      clear c50
                      obtain ⟨y228, hy228⟩ : ∃ y_ : List Int, y_ = (y216 ++ l0_4) := ⟨_, rfl⟩
                      replace H : (some y228) = some r := by first | (rw [hy228]; with_reducible exact H) | (have H2_ := (Option.bind_some _ _).symm.trans H; rw [hy228]; with_reducible exact H2_) | (have H2_ := (Option.bind_some _ _).symm.trans H; with_reducible exact H2_) | with_reducible exact H | (rw [hy228]; exact H) | exact H
                      have Ny228 := Aside0.mk hy228
                      clear hy228
                      obtain rfl := Option.some.inj H
                      have hnb51 := NB202_209.out
                      have hnc51 := NB209_202.out
                      have hcz52_0 : wc.cell? ⟨gb202, 0, none⟩ = some (.int .i64 a0_0) := (blk_cell BK202.out 0).trans rfl
                      have hcz52_1 : wc.cell? ⟨gb202, 1, none⟩ = some (.int .i64 a0_1) := (blk_cell BK202.out 1).trans rfl
                      have hcz52_2 : wc.cell? ⟨gb202, 2, none⟩ = some (.int .i64 a0_2) := (blk_cell BK202.out 2).trans rfl
                      have hcz52_3 : wc.cell? ⟨gb202, 3, none⟩ = some (.int .i64 a0_3) := (blk_cell BK202.out 3).trans rfl
                      have hcz52_4 : wc.cell? ⟨gb202, 4, none⟩ = some (.slice A0_4 l0_4.length c0_4) := (blk_cell BK202.out 4).trans rfl
                      have hcz52_5 : wc.cell? ⟨gb202, 5, none⟩ = some (.slice A0_5 l0_5.length c0_5) := (blk_cell BK202.out 5).trans rfl
                      have hcz52_6 : wc.cell? ⟨gb202, 6, none⟩ = some (.int .u64 a0_6) := (blk_cell BK202.out 6).trans rfl
                      have hcz52_7 : wc.cell? ⟨gb202, 7, none⟩ = some (.int .i64 a0_7) := (blk_cell BK202.out 7).trans rfl
                      have hfz52_0 := blk_frozen BK202.out 0
                      have hfz52_1 := blk_frozen BK202.out 1
                      have hfz52_2 := blk_frozen BK202.out 2
                      have hfz52_3 := blk_frozen BK202.out 3
                      have hfz52_4 := blk_frozen BK202.out 4
                      have hfz52_5 := blk_frozen BK202.out 5
                      have hfz52_6 := blk_frozen BK202.out 6
                      have hfz52_7 := blk_frozen BK202.out 7
                      go_wp2_with (first | ((with_reducible refine gate_builtin (b := .append) (xs := #[.tmp 30, .tmp 33]) rfl ?_); at_builtin; refine Kd.R_append (Kd.int .i64) (w0 := w) w.heap.size rfl (.tmp 30) (.tmp 33) 26 3 (.int .i64 0) 8 rfl Try.underlying26 info3 rfl (by decide) (by omega) u4 x4_16 a0_2 [.int .i64 a0_2] (fun _ => True) (fun _ => False) rfl rfl ?aP (fun _ hk => hk.elim) ?aF ?aO ?aB ?aS ?aL ?_; (case aP => exact rfl); (case aB => exact (by repeat (first | (with_reducible first | exact HB.out | apply below_alloc | apply pw_below_drewN | apply below_drew1 | refine below_set ?_ GE202.out | refine below_set ?_ GE209.out) | exact HB.out))); (case aF => exact (fun _ _ => trivial)); (case aO => exact (by (with_reducible repeat (first | apply Kd.R_alloc | apply Kd.R_drewN | apply Kd.R_drew)); exact HO_4.out)); (case aS => exact (below_size (by repeat (first | (with_reducible first | exact HB.out | apply below_alloc | apply pw_below_drewN | apply below_drew1 | refine below_set ?_ GE202.out | refine below_set ?_ GE209.out) | exact HB.out)))); (case aL => have := LMc30.out; omega); intro v217 w53 ho hb hg hat; rw [← Ny216.out] at ho; have n0_ := Aside0.mk (blk_grown (g := gb202) (o := .cells #[.int .i64 a0_0, .int .i64 a0_1, .int .i64 a0_2, .int .i64 a0_3, .slice A0_4 l0_4.length c0_4, .slice A0_5 l0_5.length c0_5, .int .u64 a0_6, .int .i64 a0_7] 142 (0, 0)) (by (with_reducible repeat (first | refine blk_drewN ?_ _ | refine blk_drew ?_ | refine blk_alloc ?_ _)); exact BK202.out) hg (Kd.R_ne HO_4.out BK202.out (by decide))); have n1_ := Aside0.mk (blk_grown (g := gb209) (o := .cells #[.int .i64 t203, .int .i64 t204, .int .i64 t205, .int .i64 t206, .int .i64 t207, .bool t208] 202 (0, 0)) (by (with_reducible repeat (first | refine blk_drewN ?_ _ | refine blk_drew ?_ | refine blk_alloc ?_ _)); exact BK209.out) hg (Kd.R_ne HO_4.out BK209.out (by decide))); have n2_ := Aside0.mk (hb); have n3_ := Aside0.mk (ho); clear BK202; clear BK209; clear HB; clear HO_4; have BK202 := n0_; have BK209 := n1_; have HB := n2_; have HO218 := n3_; clear n0_ n1_ n2_ n3_; clear ho hb hg hat; have hcz54_0 : w53.cell? ⟨gb209, 0, none⟩ = some (.int .i64 t203) := (blk_cell BK209.out 0).trans rfl; have hcz54_1 : w53.cell? ⟨gb209, 1, none⟩ = some (.int .i64 t204) := (blk_cell BK209.out 1).trans rfl; have hcz54_2 : w53.cell? ⟨gb209, 2, none⟩ = some (.int .i64 t205) := (blk_cell BK209.out 2).trans rfl; have hcz54_3 : w53.cell? ⟨gb209, 3, none⟩ = some (.int .i64 t206) := (blk_cell BK209.out 3).trans rfl; have hcz54_4 : w53.cell? ⟨gb209, 4, none⟩ = some (.int .i64 t207) := (blk_cell BK209.out 4).trans rfl; have hcz54_5 : w53.cell? ⟨gb209, 5, none⟩ = some (.bool t208) := (blk_cell BK209.out 5).trans rfl; have hfz54_0 := blk_frozen BK209.out 0; have hfz54_1 := blk_frozen BK209.out 1; have hfz54_2 := blk_frozen BK209.out 2; have hfz54_3 := blk_frozen BK209.out 3; have hfz54_4 := blk_frozen BK209.out 4; have hfz54_5 := blk_frozen BK209.out 5; have hcz55_0 : w53.cell? ⟨gb202, 0, none⟩ = some (.int .i64 a0_0) := (blk_cell BK202.out 0).trans rfl; have hcz55_1 : w53.cell? ⟨gb202, 1, none⟩ = some (.int .i64 a0_1) := (blk_cell BK202.out 1).trans rfl; have hcz55_2 : w53.cell? ⟨gb202, 2, none⟩ = some (.int .i64 a0_2) := (blk_cell BK202.out 2).trans rfl; have hcz55_3 : w53.cell? ⟨gb202, 3, none⟩ = some (.int .i64 a0_3) := (blk_cell BK202.out 3).trans rfl; have hcz55_4 : w53.cell? ⟨gb202, 4, none⟩ = some (.slice A0_4 l0_4.length c0_4) := (blk_cell BK202.out 4).trans rfl; have hcz55_5 : w53.cell? ⟨gb202, 5, none⟩ = some (.slice A0_5 l0_5.length c0_5) := (blk_cell BK202.out 5).trans rfl; have hcz55_6 : w53.cell? ⟨gb202, 6, none⟩ = some (.int .u64 a0_6) := (blk_cell BK202.out 6).trans rfl; have hcz55_7 : w53.cell? ⟨gb202, 7, none⟩ = some (.int .i64 a0_7) := (blk_cell BK202.out 7).trans rfl; have hfz55_0 := blk_frozen BK202.out 0; have hfz55_1 := blk_frozen BK202.out 1; have hfz55_2 := blk_frozen BK202.out 2; have hfz55_3 := blk_frozen BK202.out 3; have hfz55_4 := blk_frozen BK202.out 4; have hfz55_5 := blk_frozen BK202.out 5; have hfz55_6 := blk_frozen BK202.out 6; have hfz55_7 := blk_frozen BK202.out 7) | ((with_reducible refine gate_builtin (b := .append) (xs := #[.tmp 48, .tmp 50]) rfl ?_); at_builtin; refine Kd.R_append_rows (Kd.int .i64) (w0 := w) w.heap.size rfl (.tmp 48) (.tmp 50) 26 3 (.int .i64 0) 8 rfl Try.underlying26 info3 rfl (by decide) (by omega) v217 y216 l0_4 _ _ _ (fun _ => True) (fun _ => False) rfl rfl ?aO ?aR (fun _ _ h => h) (fun _ h => h.elim) ?aF ?aB ?aS ?aL ?_; (case aR => repeat (first | exact (Kd.C_below HR0_4.out HB.out) | (with_reducible refine Kd.C_alloc ?_ _) | (with_reducible refine Kd.C_drewN ?_ _) | (with_reducible refine Kd.C_drew ?_))); (case aB => exact (by repeat (first | (with_reducible first | exact HB.out | apply below_alloc | apply pw_below_drewN | apply below_drew1 | refine below_set ?_ GE202.out | refine below_set ?_ GE209.out) | exact HB.out))); (case aF => exact (fun _ _ => trivial)); (case aO => exact (by (with_reducible repeat (first | apply Kd.R_alloc | apply Kd.R_drewN | apply Kd.R_drew)); exact HO218.out)); (case aS => exact (below_size (by repeat (first | (with_reducible first | exact HB.out | apply below_alloc | apply pw_below_drewN | apply below_drew1 | refine below_set ?_ GE202.out | refine below_set ?_ GE209.out) | exact HB.out)))); (case aL => have := LMc50.out; omega); intro v229 w56 ho hb hg hat; rw [← Ny228.out] at ho; have n0_ := Aside0.mk (blk_grown (g := gb202) (o := .cells #[.int .i64 a0_0, .int .i64 a0_1, .int .i64 a0_2, .int .i64 a0_3, .slice A0_4 l0_4.length c0_4, .slice A0_5 l0_5.length c0_5, .int .u64 a0_6, .int .i64 a0_7] 142 (0, 0)) (by (with_reducible repeat (first | refine blk_drewN ?_ _ | refine blk_drew ?_ | refine blk_alloc ?_ _)); exact BK202.out) hg (Kd.R_ne HO218.out BK202.out (by decide))); have n1_ := Aside0.mk (blk_grown (g := gb209) (o := .cells #[.int .i64 t203, .int .i64 t204, .int .i64 t205, .int .i64 t206, .int .i64 t207, .bool t208] 202 (0, 0)) (by (with_reducible repeat (first | refine blk_drewN ?_ _ | refine blk_drew ?_ | refine blk_alloc ?_ _)); exact BK209.out) hg (Kd.R_ne HO218.out BK209.out (by decide))); have n2_ := Aside0.mk (hb); have n3_ := Aside0.mk (ho); clear BK202; clear BK209; clear HB; clear HO218; have BK202 := n0_; have BK209 := n1_; have HB := n2_; have HO230 := n3_; clear n0_ n1_ n2_ n3_; clear ho hb hg hat))
                      go_ret
                      exact ⟨_, by first | rfl | (simp [errW_none, errW_some] <;> rfl) | (simp [*, errW_none, errW_some] <;> rfl), by (with_reducible repeat (first | apply Kd.R_alloc | apply Kd.R_drewN | apply Kd.R_drew)); exact HO230.out, by repeat (first | (with_reducible first | exact HB.out | apply below_alloc | apply pw_below_drewN | apply below_drew1 | refine below_set ?_ GE202.out | refine below_set ?_ GE209.out) | exact HB.out)⟩
                    · rw [if_neg c50] at H
                      exact absurd H (by simp)
                · rw [if_neg c30] at H
                  exact absurd H (by simp)
              · replace c29 := Bool.eq_false_iff.mpr c29
                subst c29
                have H1 : (if t205 = 4 then (if a0_3 ≥ 0 then (if x4_16.length < 17592186044416 then ((some (x4_16 ++ [a0_3] : List Int)).bind fun y231 => (if y231.length + l0_4.length < 17592186044416 then (some (y231 ++ l0_4)) else (none))) else (none)) else (if x4_16.length + l0_4.length < 17592186044416 then (some (x4_16 ++ l0_4)) else (none))) else (if x4_16.length + l0_4.length < 17592186044416 then (some (x4_16 ++ l0_4)) else (none))) = some r := by rw [if_neg (show ¬ (false = true) by decide)] at H; exact H
                clear H
                have H := H1
                clear H1
                by_cases c57 : t205 = 4
                · rw [if_pos c57] at H
                  have c57b0 : (t205 == 4) = true := beq_iff_eq.mpr c57
                  have c57b1 : (t205 != 4) = false := bne_eq_false_iff_eq.mpr c57
                  clear c57
                  by_cases c58 : a0_3 ≥ 0
                  · rw [if_pos c58] at H
                    have c58b0 : decide (0 ≤ a0_3) = true := decide_eq_true c58
                    clear c58
                    by_cases c59 : x4_16.length < 17592186044416
                    · rw [if_pos c59] at H
                      have LMc59 := Aside0.mk c59
                      clear c59
                      obtain ⟨y231, hy231⟩ : ∃ y_ : List Int, y_ = (x4_16 ++ [a0_3]) := ⟨_, rfl⟩
                      replace H : (if y231.length + l0_4.length < 17592186044416 then (some (y231 ++ l0_4)) else (none)) = some r := by first | (rw [hy231]; with_reducible exact H) | (have H2_ := (Option.bind_some _ _).symm.trans H; rw [hy231]; with_reducible exact H2_) | (have H2_ := (Option.bind_some _ _).symm.trans H; with_reducible exact H2_) | with_reducible exact H | (rw [hy231]; exact H) | exact H
                      have Ny231 := Aside0.mk hy231
                      clear hy231
                      by_cases c60 : y231.length + l0_4.length < 17592186044416
                      · rw [if_pos c60] at H
                        have LMc60 := Aside0.mk c60
                        clear c60
                        obtain ⟨y234, hy234⟩ : ∃ y_ : List Int, y_ = (y231 ++ l0_4) := ⟨_, rfl⟩
                        replace H : (some y234) = some r := by first | (rw [hy234]; with_reducible exact H) | (have H2_ := (Option.bind_some _ _).symm.trans H; rw [hy234]; with_reducible exact H2_) | (have H2_ := (Option.bind_some _ _).symm.trans H; with_reducible exact H2_) | with_reducible exact H | (rw [hy234]; exact H) | exact H
                        have Ny234 := Aside0.mk hy234
                        clear hy234
                        obtain rfl := Option.some.inj H
                        have hnb61 := NB209_202.out
                        have hnc61 := NB202_209.out
                        have hcz62_0 : wc.cell? ⟨gb209, 0, none⟩ = some (.int .i64 t203) := (blk_cell BK209.out 0).trans rfl
                        have hcz62_1 : wc.cell? ⟨gb209, 1, none⟩ = some (.int .i64 t204) := (blk_cell BK209.out 1).trans rfl
                        have hcz62_2 : wc.cell? ⟨gb209, 2, none⟩ = some (.int .i64 t205) := (blk_cell BK209.out 2).trans rfl
                        have hcz62_3 : wc.cell? ⟨gb209, 3, none⟩ = some (.int .i64 t206) := (blk_cell BK209.out 3).trans rfl
                        have hcz62_4 : wc.cell? ⟨gb209, 4, none⟩ = some (.int .i64 t207) := (blk_cell BK209.out 4).trans rfl
                        have hcz62_5 : wc.cell? ⟨gb209, 5, none⟩ = some (.bool t208) := (blk_cell BK209.out 5).trans rfl
                        have hfz62_0 := blk_frozen BK209.out 0
                        have hfz62_1 := blk_frozen BK209.out 1
                        have hfz62_2 := blk_frozen BK209.out 2
                        have hfz62_3 := blk_frozen BK209.out 3
                        have hfz62_4 := blk_frozen BK209.out 4
                        have hfz62_5 := blk_frozen BK209.out 5
                        have hcz63_0 : wc.cell? ⟨gb202, 0, none⟩ = some (.int .i64 a0_0) := (blk_cell BK202.out 0).trans rfl
                        have hcz63_1 : wc.cell? ⟨gb202, 1, none⟩ = some (.int .i64 a0_1) := (blk_cell BK202.out 1).trans rfl
                        have hcz63_2 : wc.cell? ⟨gb202, 2, none⟩ = some (.int .i64 a0_2) := (blk_cell BK202.out 2).trans rfl
                        have hcz63_3 : wc.cell? ⟨gb202, 3, none⟩ = some (.int .i64 a0_3) := (blk_cell BK202.out 3).trans rfl
                        have hcz63_4 : wc.cell? ⟨gb202, 4, none⟩ = some (.slice A0_4 l0_4.length c0_4) := (blk_cell BK202.out 4).trans rfl
                        have hcz63_5 : wc.cell? ⟨gb202, 5, none⟩ = some (.slice A0_5 l0_5.length c0_5) := (blk_cell BK202.out 5).trans rfl
                        have hcz63_6 : wc.cell? ⟨gb202, 6, none⟩ = some (.int .u64 a0_6) := (blk_cell BK202.out 6).trans rfl
                        have hcz63_7 : wc.cell? ⟨gb202, 7, none⟩ = some (.int .i64 a0_7) := (blk_cell BK202.out 7).trans rfl
                        have hfz63_0 := blk_frozen BK202.out 0
                        have hfz63_1 := blk_frozen BK202.out 1
                        have hfz63_2 := blk_frozen BK202.out 2
                        have hfz63_3 := blk_frozen BK202.out 3
                        have hfz63_4 := blk_frozen BK202.out 4
                        have hfz63_5 := blk_frozen BK202.out 5
                        have hfz63_6 := blk_frozen BK202.out 6
                        have hfz63_7 := blk_frozen BK202.out 7
                        go_wp2_with (first | ((with_reducible refine gate_builtin (b := .append) (xs := #[.tmp 43, .tmp 46]) rfl ?_); at_builtin; refine Kd.R_append (Kd.int .i64) (w0 := w) w.heap.size rfl (.tmp 43) (.tmp 46) 26 3 (.int .i64 0) 8 rfl Try.underlying26 info3 rfl (by decide) (by omega) u4 x4_16 a0_3 [.int .i64 a0_3] (fun _ => True) (fun _ => False) rfl rfl ?aP (fun _ hk => hk.elim) ?aF ?aO ?aB ?aS ?aL ?_; (case aP => exact rfl); (case aB => exact (by repeat (first | (with_reducible first | exact HB.out | apply below_alloc | apply pw_below_drewN | apply below_drew1 | refine below_set ?_ GE202.out | refine below_set ?_ GE209.out) | exact HB.out))); (case aF => exact (fun _ _ => trivial)); (case aO => exact (by (with_reducible repeat (first | apply Kd.R_alloc | apply Kd.R_drewN | apply Kd.R_drew)); exact HO_4.out)); (case aS => exact (below_size (by repeat (first | (with_reducible first | exact HB.out | apply below_alloc | apply pw_below_drewN | apply below_drew1 | refine below_set ?_ GE202.out | refine below_set ?_ GE209.out) | exact HB.out)))); (case aL => have := LMc59.out; omega); intro v232 w64 ho hb hg hat; rw [← Ny231.out] at ho; have n0_ := Aside0.mk (blk_grown (g := gb202) (o := .cells #[.int .i64 a0_0, .int .i64 a0_1, .int .i64 a0_2, .int .i64 a0_3, .slice A0_4 l0_4.length c0_4, .slice A0_5 l0_5.length c0_5, .int .u64 a0_6, .int .i64 a0_7] 142 (0, 0)) (by (with_reducible repeat (first | refine blk_drewN ?_ _ | refine blk_drew ?_ | refine blk_alloc ?_ _)); exact BK202.out) hg (Kd.R_ne HO_4.out BK202.out (by decide))); have n1_ := Aside0.mk (blk_grown (g := gb209) (o := .cells #[.int .i64 t203, .int .i64 t204, .int .i64 t205, .int .i64 t206, .int .i64 t207, .bool t208] 202 (0, 0)) (by (with_reducible repeat (first | refine blk_drewN ?_ _ | refine blk_drew ?_ | refine blk_alloc ?_ _)); exact BK209.out) hg (Kd.R_ne HO_4.out BK209.out (by decide))); have n2_ := Aside0.mk (hb); have n3_ := Aside0.mk (ho); clear BK202; clear BK209; clear HB; clear HO_4; have BK202 := n0_; have BK209 := n1_; have HB := n2_; have HO233 := n3_; clear n0_ n1_ n2_ n3_; clear ho hb hg hat; have hcz65_0 : w64.cell? ⟨gb202, 0, none⟩ = some (.int .i64 a0_0) := (blk_cell BK202.out 0).trans rfl; have hcz65_1 : w64.cell? ⟨gb202, 1, none⟩ = some (.int .i64 a0_1) := (blk_cell BK202.out 1).trans rfl; have hcz65_2 : w64.cell? ⟨gb202, 2, none⟩ = some (.int .i64 a0_2) := (blk_cell BK202.out 2).trans rfl; have hcz65_3 : w64.cell? ⟨gb202, 3, none⟩ = some (.int .i64 a0_3) := (blk_cell BK202.out 3).trans rfl; have hcz65_4 : w64.cell? ⟨gb202, 4, none⟩ = some (.slice A0_4 l0_4.length c0_4) := (blk_cell BK202.out 4).trans rfl; have hcz65_5 : w64.cell? ⟨gb202, 5, none⟩ = some (.slice A0_5 l0_5.length c0_5) := (blk_cell BK202.out 5).trans rfl; have hcz65_6 : w64.cell? ⟨gb202, 6, none⟩ = some (.int .u64 a0_6) := (blk_cell BK202.out 6).trans rfl; have hcz65_7 : w64.cell? ⟨gb202, 7, none⟩ = some (.int .i64 a0_7) := (blk_cell BK202.out 7).trans rfl; have hfz65_0 := blk_frozen BK202.out 0; have hfz65_1 := blk_frozen BK202.out 1; have hfz65_2 := blk_frozen BK202.out 2; have hfz65_3 := blk_frozen BK202.out 3; have hfz65_4 := blk_frozen BK202.out 4; have hfz65_5 := blk_frozen BK202.out 5; have hfz65_6 := blk_frozen BK202.out 6; have hfz65_7 := blk_frozen BK202.out 7) | ((with_reducible refine gate_builtin (b := .append) (xs := #[.tmp 48, .tmp 50]) rfl ?_); at_builtin; refine Kd.R_append_rows (Kd.int .i64) (w0 := w) w.heap.size rfl (.tmp 48) (.tmp 50) 26 3 (.int .i64 0) 8 rfl Try.underlying26 info3 rfl (by decide) (by omega) v232 y231 l0_4 _ _ _ (fun _ => True) (fun _ => False) rfl rfl ?aO ?aR (fun _ _ h => h) (fun _ h => h.elim) ?aF ?aB ?aS ?aL ?_; (case aR => repeat (first | exact (Kd.C_below HR0_4.out HB.out) | (with_reducible refine Kd.C_alloc ?_ _) | (with_reducible refine Kd.C_drewN ?_ _) | (with_reducible refine Kd.C_drew ?_))); (case aB => exact (by repeat (first | (with_reducible first | exact HB.out | apply below_alloc | apply pw_below_drewN | apply below_drew1 | refine below_set ?_ GE202.out | refine below_set ?_ GE209.out) | exact HB.out))); (case aF => exact (fun _ _ => trivial)); (case aO => exact (by (with_reducible repeat (first | apply Kd.R_alloc | apply Kd.R_drewN | apply Kd.R_drew)); exact HO233.out)); (case aS => exact (below_size (by repeat (first | (with_reducible first | exact HB.out | apply below_alloc | apply pw_below_drewN | apply below_drew1 | refine below_set ?_ GE202.out | refine below_set ?_ GE209.out) | exact HB.out)))); (case aL => have := LMc60.out; omega); intro v235 w66 ho hb hg hat; rw [← Ny234.out] at ho; have n0_ := Aside0.mk (blk_grown (g := gb202) (o := .cells #[.int .i64 a0_0, .int .i64 a0_1, .int .i64 a0_2, .int .i64 a0_3, .slice A0_4 l0_4.length c0_4, .slice A0_5 l0_5.length c0_5, .int .u64 a0_6, .int .i64 a0_7] 142 (0, 0)) (by (with_reducible repeat (first | refine blk_drewN ?_ _ | refine blk_drew ?_ | refine blk_alloc ?_ _)); exact BK202.out) hg (Kd.R_ne HO233.out BK202.out (by decide))); have n1_ := Aside0.mk (blk_grown (g := gb209) (o := .cells #[.int .i64 t203, .int .i64 t204, .int .i64 t205, .int .i64 t206, .int .i64 t207, .bool t208] 202 (0, 0)) (by (with_reducible repeat (first | refine blk_drewN ?_ _ | refine blk_drew ?_ | refine blk_alloc ?_ _)); exact BK209.out) hg (Kd.R_ne HO233.out BK209.out (by decide))); have n2_ := Aside0.mk (hb); have n3_ := Aside0.mk (ho); clear BK202; clear BK209; clear HB; clear HO233; have BK202 := n0_; have BK209 := n1_; have HB := n2_; have HO236 := n3_; clear n0_ n1_ n2_ n3_; clear ho hb hg hat))
                        go_ret
                        exact ⟨_, by first | rfl | (simp [errW_none, errW_some] <;> rfl) | (simp [*, errW_none, errW_some] <;> rfl), by (with_reducible repeat (first | apply Kd.R_alloc | apply Kd.R_drewN | apply Kd.R_drew)); exact HO236.out, by repeat (first | (with_reducible first | exact HB.out | apply below_alloc | apply pw_below_drewN | apply below_drew1 | refine below_set ?_ GE202.out | refine below_set ?_ GE209.out) | exact HB.out)⟩
                      · rw [if_neg c60] at H
                        exact absurd H (by simp)
                    · rw [if_neg c59] at H
                      exact absurd H (by simp)
                  · rw [if_neg c58] at H
                    have c58b0 : decide (0 ≤ a0_3) = false := decide_eq_false c58
                    clear c58
                    by_cases c67 : x4_16.length + l0_4.length < 17592186044416
                    · rw [if_pos c67] at H
                      have LMc67 := Aside0.mk c67
                      clear c67
                      obtain ⟨y237, hy237⟩ : ∃ y_ : List Int, y_ = (x4_16 ++ l0_4) := ⟨_, rfl⟩
                      replace H : (some y237) = some r := by first | (rw [hy237]; with_reducible exact H) | (have H2_ := (Option.bind_some _ _).symm.trans H; rw [hy237]; with_reducible exact H2_) | (have H2_ := (Option.bind_some _ _).symm.trans H; with_reducible exact H2_) | with_reducible exact H | (rw [hy237]; exact H) | exact H
                      have Ny237 := Aside0.mk hy237
                      clear hy237
                      obtain rfl := Option.some.inj H
                      have hnb68 := NB209_202.out
                      have hnc68 := NB202_209.out
                      have hcz69_0 : wc.cell? ⟨gb209, 0, none⟩ = some (.int .i64 t203) := (blk_cell BK209.out 0).trans rfl
                      have hcz69_1 : wc.cell? ⟨gb209, 1, none⟩ = some (.int .i64 t204) := (blk_cell BK209.out 1).trans rfl
                      have hcz69_2 : wc.cell? ⟨gb209, 2, none⟩ = some (.int .i64 t205) := (blk_cell BK209.out 2).trans rfl
                      have hcz69_3 : wc.cell? ⟨gb209, 3, none⟩ = some (.int .i64 t206) := (blk_cell BK209.out 3).trans rfl
                      have hcz69_4 : wc.cell? ⟨gb209, 4, none⟩ = some (.int .i64 t207) := (blk_cell BK209.out 4).trans rfl
                      have hcz69_5 : wc.cell? ⟨gb209, 5, none⟩ = some (.bool t208) := (blk_cell BK209.out 5).trans rfl
                      have hfz69_0 := blk_frozen BK209.out 0
                      have hfz69_1 := blk_frozen BK209.out 1
                      have hfz69_2 := blk_frozen BK209.out 2
                      have hfz69_3 := blk_frozen BK209.out 3
                      have hfz69_4 := blk_frozen BK209.out 4
                      have hfz69_5 := blk_frozen BK209.out 5
                      have hcz70_0 : wc.cell? ⟨gb202, 0, none⟩ = some (.int .i64 a0_0) := (blk_cell BK202.out 0).trans rfl
                      have hcz70_1 : wc.cell? ⟨gb202, 1, none⟩ = some (.int .i64 a0_1) := (blk_cell BK202.out 1).trans rfl
                      have hcz70_2 : wc.cell? ⟨gb202, 2, none⟩ = some (.int .i64 a0_2) := (blk_cell BK202.out 2).trans rfl
                      have hcz70_3 : wc.cell? ⟨gb202, 3, none⟩ = some (.int .i64 a0_3) := (blk_cell BK202.out 3).trans rfl
                      have hcz70_4 : wc.cell? ⟨gb202, 4, none⟩ = some (.slice A0_4 l0_4.length c0_4) := (blk_cell BK202.out 4).trans rfl
                      have hcz70_5 : wc.cell? ⟨gb202, 5, none⟩ = some (.slice A0_5 l0_5.length c0_5) := (blk_cell BK202.out 5).trans rfl
                      have hcz70_6 : wc.cell? ⟨gb202, 6, none⟩ = some (.int .u64 a0_6) := (blk_cell BK202.out 6).trans rfl
                      have hcz70_7 : wc.cell? ⟨gb202, 7, none⟩ = some (.int .i64 a0_7) := (blk_cell BK202.out 7).trans rfl
                      have hfz70_0 := blk_frozen BK202.out 0
                      have hfz70_1 := blk_frozen BK202.out 1
                      have hfz70_2 := blk_frozen BK202.out 2
                      have hfz70_3 := blk_frozen BK202.out 3
                      have hfz70_4 := blk_frozen BK202.out 4
                      have hfz70_5 := blk_frozen BK202.out 5
                      have hfz70_6 := blk_frozen BK202.out 6
                      have hfz70_7 := blk_frozen BK202.out 7
                      go_wp2_with (first | ((with_reducible refine gate_builtin (b := .append) (xs := #[.tmp 48, .tmp 50]) rfl ?_); at_builtin; refine Kd.R_append_rows (Kd.int .i64) (w0 := w) w.heap.size rfl (.tmp 48) (.tmp 50) 26 3 (.int .i64 0) 8 rfl Try.underlying26 info3 rfl (by decide) (by omega) u4 x4_16 l0_4 _ _ _ (fun _ => True) (fun _ => False) rfl rfl ?aO ?aR (fun _ _ h => h) (fun _ h => h.elim) ?aF ?aB ?aS ?aL ?_; (case aR => repeat (first | exact (Kd.C_below HR0_4.out HB.out) | (with_reducible refine Kd.C_alloc ?_ _) | (with_reducible refine Kd.C_drewN ?_ _) | (with_reducible refine Kd.C_drew ?_))); (case aB => exact (by repeat (first | (with_reducible first | exact HB.out | apply below_alloc | apply pw_below_drewN | apply below_drew1 | refine below_set ?_ GE202.out | refine below_set ?_ GE209.out) | exact HB.out))); (case aF => exact (fun _ _ => trivial)); (case aO => exact (by (with_reducible repeat (first | apply Kd.R_alloc | apply Kd.R_drewN | apply Kd.R_drew)); exact HO_4.out)); (case aS => exact (below_size (by repeat (first | (with_reducible first | exact HB.out | apply below_alloc | apply pw_below_drewN | apply below_drew1 | refine below_set ?_ GE202.out | refine below_set ?_ GE209.out) | exact HB.out)))); (case aL => have := LMc67.out; omega); intro v238 w71 ho hb hg hat; rw [← Ny237.out] at ho; have n0_ := Aside0.mk (blk_grown (g := gb202) (o := .cells #[.int .i64 a0_0, .int .i64 a0_1, .int .i64 a0_2, .int .i64 a0_3, .slice A0_4 l0_4.length c0_4, .slice A0_5 l0_5.length c0_5, .int .u64 a0_6, .int .i64 a0_7] 142 (0, 0)) (by (with_reducible repeat (first | refine blk_drewN ?_ _ | refine blk_drew ?_ | refine blk_alloc ?_ _)); exact BK202.out) hg (Kd.R_ne HO_4.out BK202.out (by decide))); have n1_ := Aside0.mk (blk_grown (g := gb209) (o := .cells #[.int .i64 t203, .int .i64 t204, .int .i64 t205, .int .i64 t206, .int .i64 t207, .bool t208] 202 (0, 0)) (by (with_reducible repeat (first | refine blk_drewN ?_ _ | refine blk_drew ?_ | refine blk_alloc ?_ _)); exact BK209.out) hg (Kd.R_ne HO_4.out BK209.out (by decide))); have n2_ := Aside0.mk (hb); have n3_ := Aside0.mk (ho); clear BK202; clear BK209; clear HB; clear HO_4; have BK202 := n0_; have BK209 := n1_; have HB := n2_; have HO239 := n3_; clear n0_ n1_ n2_ n3_; clear ho hb hg hat))
                      go_ret
                      exact ⟨_, by first | rfl | (simp [errW_none, errW_some] <;> rfl) | (simp [*, errW_none, errW_some] <;> rfl), by (with_reducible repeat (first | apply Kd.R_alloc | apply Kd.R_drewN | apply Kd.R_drew)); exact HO239.out, by repeat (first | (with_reducible first | exact HB.out | apply below_alloc | apply pw_below_drewN | apply below_drew1 | refine below_set ?_ GE202.out | refine below_set ?_ GE209.out) | exact HB.out)⟩
                    · rw [if_neg c67] at H
                      exact absurd H (by simp)
                · rw [if_neg c57] at H
                  have c57b0 : (t205 == 4) = false := beq_eq_false_iff_ne.mpr c57
                  have c57b1 : (t205 != 4) = true := bne_iff_ne.mpr c57
                  by_cases c72 : x4_16.length + l0_4.length < 17592186044416
                  · rw [if_pos c72] at H
                    have LMc72 := Aside0.mk c72
                    clear c72
                    obtain ⟨y240, hy240⟩ : ∃ y_ : List Int, y_ = (x4_16 ++ l0_4) := ⟨_, rfl⟩
                    replace H : (some y240) = some r := by first | (rw [hy240]; with_reducible exact H) | (have H2_ := (Option.bind_some _ _).symm.trans H; rw [hy240]; with_reducible exact H2_) | (have H2_ := (Option.bind_some _ _).symm.trans H; with_reducible exact H2_) | with_reducible exact H | (rw [hy240]; exact H) | exact H
                    have Ny240 := Aside0.mk hy240
                    clear hy240
                    obtain rfl := Option.some.inj H
                    have hnb73 := NB209_202.out
                    have hnc73 := NB202_209.out
                    have hcz74_0 : wc.cell? ⟨gb209, 0, none⟩ = some (.int .i64 t203) := (blk_cell BK209.out 0).trans rfl
                    have hcz74_1 : wc.cell? ⟨gb209, 1, none⟩ = some (.int .i64 t204) := (blk_cell BK209.out 1).trans rfl
                    have hcz74_2 : wc.cell? ⟨gb209, 2, none⟩ = some (.int .i64 t205) := (blk_cell BK209.out 2).trans rfl
                    have hcz74_3 : wc.cell? ⟨gb209, 3, none⟩ = some (.int .i64 t206) := (blk_cell BK209.out 3).trans rfl
                    have hcz74_4 : wc.cell? ⟨gb209, 4, none⟩ = some (.int .i64 t207) := (blk_cell BK209.out 4).trans rfl
                    have hcz74_5 : wc.cell? ⟨gb209, 5, none⟩ = some (.bool t208) := (blk_cell BK209.out 5).trans rfl
                    have hfz74_0 := blk_frozen BK209.out 0
                    have hfz74_1 := blk_frozen BK209.out 1
                    have hfz74_2 := blk_frozen BK209.out 2
                    have hfz74_3 := blk_frozen BK209.out 3
                    have hfz74_4 := blk_frozen BK209.out 4
                    have hfz74_5 := blk_frozen BK209.out 5
                    have hcz75_0 : wc.cell? ⟨gb202, 0, none⟩ = some (.int .i64 a0_0) := (blk_cell BK202.out 0).trans rfl
                    have hcz75_1 : wc.cell? ⟨gb202, 1, none⟩ = some (.int .i64 a0_1) := (blk_cell BK202.out 1).trans rfl
                    have hcz75_2 : wc.cell? ⟨gb202, 2, none⟩ = some (.int .i64 a0_2) := (blk_cell BK202.out 2).trans rfl
                    have hcz75_3 : wc.cell? ⟨gb202, 3, none⟩ = some (.int .i64 a0_3) := (blk_cell BK202.out 3).trans rfl
                    have hcz75_4 : wc.cell? ⟨gb202, 4, none⟩ = some (.slice A0_4 l0_4.length c0_4) := (blk_cell BK202.out 4).trans rfl
                    have hcz75_5 : wc.cell? ⟨gb202, 5, none⟩ = some (.slice A0_5 l0_5.length c0_5) := (blk_cell BK202.out 5).trans rfl
                    have hcz75_6 : wc.cell? ⟨gb202, 6, none⟩ = some (.int .u64 a0_6) := (blk_cell BK202.out 6).trans rfl
                    have hcz75_7 : wc.cell? ⟨gb202, 7, none⟩ = some (.int .i64 a0_7) := (blk_cell BK202.out 7).trans rfl
                    have hfz75_0 := blk_frozen BK202.out 0
                    have hfz75_1 := blk_frozen BK202.out 1
                    have hfz75_2 := blk_frozen BK202.out 2
                    have hfz75_3 := blk_frozen BK202.out 3
                    have hfz75_4 := blk_frozen BK202.out 4
                    have hfz75_5 := blk_frozen BK202.out 5
                    have hfz75_6 := blk_frozen BK202.out 6
                    have hfz75_7 := blk_frozen BK202.out 7
                    go_wp2_with (first | ((with_reducible refine gate_builtin (b := .append) (xs := #[.tmp 48, .tmp 50]) rfl ?_); at_builtin; refine Kd.R_append_rows (Kd.int .i64) (w0 := w) w.heap.size rfl (.tmp 48) (.tmp 50) 26 3 (.int .i64 0) 8 rfl Try.underlying26 info3 rfl (by decide) (by omega) u4 x4_16 l0_4 _ _ _ (fun _ => True) (fun _ => False) rfl rfl ?aO ?aR (fun _ _ h => h) (fun _ h => h.elim) ?aF ?aB ?aS ?aL ?_; (case aR => repeat (first | exact (Kd.C_below HR0_4.out HB.out) | (with_reducible refine Kd.C_alloc ?_ _) | (with_reducible refine Kd.C_drewN ?_ _) | (with_reducible refine Kd.C_drew ?_))); (case aB => exact (by repeat (first | (with_reducible first | exact HB.out | apply below_alloc | apply pw_below_drewN | apply below_drew1 | refine below_set ?_ GE202.out | refine below_set ?_ GE209.out) | exact HB.out))); (case aF => exact (fun _ _ => trivial)); (case aO => exact (by (with_reducible repeat (first | apply Kd.R_alloc | apply Kd.R_drewN | apply Kd.R_drew)); exact HO_4.out)); (case aS => exact (below_size (by repeat (first | (with_reducible first | exact HB.out | apply below_alloc | apply pw_below_drewN | apply below_drew1 | refine below_set ?_ GE202.out | refine below_set ?_ GE209.out) | exact HB.out)))); (case aL => have := LMc72.out; omega); intro v241 w76 ho hb hg hat; rw [← Ny240.out] at ho; have n0_ := Aside0.mk (blk_grown (g := gb202) (o := .cells #[.int .i64 a0_0, .int .i64 a0_1, .int .i64 a0_2, .int .i64 a0_3, .slice A0_4 l0_4.length c0_4, .slice A0_5 l0_5.length c0_5, .int .u64 a0_6, .int .i64 a0_7] 142 (0, 0)) (by (with_reducible repeat (first | refine blk_drewN ?_ _ | refine blk_drew ?_ | refine blk_alloc ?_ _)); exact BK202.out) hg (Kd.R_ne HO_4.out BK202.out (by decide))); have n1_ := Aside0.mk (blk_grown (g := gb209) (o := .cells #[.int .i64 t203, .int .i64 t204, .int .i64 t205, .int .i64 t206, .int .i64 t207, .bool t208] 202 (0, 0)) (by (with_reducible repeat (first | refine blk_drewN ?_ _ | refine blk_drew ?_ | refine blk_alloc ?_ _)); exact BK209.out) hg (Kd.R_ne HO_4.out BK209.out (by decide))); have n2_ := Aside0.mk (hb); have n3_ := Aside0.mk (ho); clear BK202; clear BK209; clear HB; clear HO_4; have BK202 := n0_; have BK209 := n1_; have HB := n2_; have HO242 := n3_; clear n0_ n1_ n2_ n3_; clear ho hb hg hat))
                    go_ret
                    exact ⟨_, by first | rfl | (simp [errW_none, errW_some] <;> rfl) | (simp [*, errW_none, errW_some] <;> rfl), by (with_reducible repeat (first | apply Kd.R_alloc | apply Kd.R_drewN | apply Kd.R_drew)); exact HO242.out, by repeat (first | (with_reducible first | exact HB.out | apply below_alloc | apply pw_below_drewN | apply below_drew1 | refine below_set ?_ GE202.out | refine below_set ?_ GE209.out) | exact HB.out)⟩
                  · rw [if_neg c72] at H
                    exact absurd H (by simp)
-- NOT PRINTED: function 57 (spec_DepthOf)
end Go.Proofs.Ytlhfhfamifmijaa.QFnExactDepthOf
end
section
namespace Go.Proofs.Ytlhfhfamifmijaa.LeafN
open Go.RowKit Go.Proofs.YtlhfhfamifmijaaW.PrintWords Go.Proofs.YtlhfhfamifmijaaW.PrintMore Go.Proofs.Ytlhfhfamifmijaa.Law Go.Proofs.Ytlhfhfamifmijaa.Num Go.Proofs.Ytlhfhfamifmijaa
set_option linter.unusedVariables false
set_option linter.unusedSimpArgs false
set_option autoImplicit false
theorem use_abc (k : Int) : ((useOf k).a = 0 ∨ (useOf k).a = 1 ∨ (useOf k).a = 2) ∧ ((useOf k).b = 0 ∨ (useOf k).b = 1 ∨ (useOf k).b = 2 ∨ (useOf k).b = 3) ∧ ((useOf k).c = 0 ∨ (useOf k).c = 3 ∨ (useOf k).c = 4) := by
  rcases kind_cases k with rfl | rfl | rfl | rfl | rfl | rfl | rfl | rfl | rfl | rfl | rfl | rfl | rfl | rfl | rfl | rfl | rfl | rfl | rfl | rfl | h
  all_goals first | decide | skip
  have e : useT k = (0, 0, 0, 0, 0, false) := by simp [useT, h]
  unfold useOf
  rw [e]
  decide
theorem use_fD (k : Int) : QFnExactDepthOf.spec_l09UseOf.f 20 k = some (useT k) := by
  rcases kind_cases k with rfl | rfl | rfl | rfl | rfl | rfl | rfl | rfl | rfl | rfl | rfl | rfl | rfl | rfl | rfl | rfl | rfl | rfl | rfl | rfl | h
  all_goals first | rfl | skip
  obtain ⟨h1, h2, h6, h7, h8, h9, h10, h11, h12, h13, h20, h21, h22, h23, h24, h25, h26, h27, h28, h29⟩ := h
  simp [QFnExactDepthOf.spec_l09UseOf.f, QFnExactDepthOf.spec_l09UseOf.j0, QFnExactDepthOf.spec_l09UseOf.j1, QFnExactDepthOf.spec_l09UseOf.j2, useT, *]
theorem kids_fD (n : Node) (hc : (useOf n.kind).c = 4 → n.c = -1 ∨ 0 ≤ n.c) (hl : n.list.length ≤ 1048576) : QFnExactDepthOf.spec_l09Kids.f 20 n.kind n.a n.b n.c n.list n.names n.num n.at_ = some (kids n) := by
  obtain ⟨ua, ub, uc⟩ := use_abc n.kind
  have hu := use_fD n.kind
  unfold useOf at ua ub uc hc
  unfold QFnExactDepthOf.spec_l09Kids.f
  rw [hu]
  unfold kids useOf
  generalize useT n.kind = T at *
  obtain ⟨a, b, c, ls, nm, num⟩ := T
  dsimp only at ua ub uc hc ⊢
  have g0 : n.list.length < 17592186044416 := by omega
  have g1 : 1 + n.list.length < 17592186044416 := by omega
  have g2 : 1 + 1 + n.list.length < 17592186044416 := by omega
  have g3 : 1 + 1 + 1 + n.list.length < 17592186044416 := by omega
  have g4 : 2 + n.list.length < 17592186044416 := by omega
  have g5 : 3 + n.list.length < 17592186044416 := by omega
  rcases ua with rfl | rfl | rfl <;> rcases ub with rfl | rfl | rfl | rfl <;> rcases uc with rfl | rfl | rfl
  all_goals first
    | (simp [QFnExactDepthOf.spec_l09Kids.j0, QFnExactDepthOf.spec_l09Kids.j1, QFnExactDepthOf.spec_l09Kids.j2, pk, g0, g1, g2, g3, g4, g5]; done)
    | (rcases hc rfl with h | h
       · simp [QFnExactDepthOf.spec_l09Kids.j0, QFnExactDepthOf.spec_l09Kids.j1, QFnExactDepthOf.spec_l09Kids.j2, pk, g0, g1, g2, g3, g4, g5, h]
       · have h2 : ¬ n.c = -1 := by omega
         simp [QFnExactDepthOf.spec_l09Kids.j0, QFnExactDepthOf.spec_l09Kids.j1, QFnExactDepthOf.spec_l09Kids.j2, pk, g0, g1, g2, g3, g4, g5, h, h2])
theorem cKidsS (n : Node) (cs : List Value) (w : World) (hk : kNodeI.K w n cs) (hc : (useOf n.kind).c = 4 → n.c = -1 ∨ 0 ≤ n.c) (hl : n.list.length ≤ 1048576) :
    Calls Try.prog 112 #[.agg ⟨cs⟩] w fun e w' => ∃ v, e = .returned v ∧ (Kd.int .i64).R 3 w' w.heap.size (fun _ => True) v (kids n) ∧ Below w.heap.size w w' := by
  obtain ⟨A4, c4, A5, c5, rfl, h4, g4, h5, g5⟩ := kNodeI_open hk
  exact QFnExactDepthOf.spec_l09Kids.calls 20 _ _ _ _ _ _ _ _ _ _ _ _ _ w g4 h4 g5 h5 (kids_fD n hc hl)
theorem infoInt : (Try.prog.info? 3).map (fun i => (i.zero, i.size, i.bytes)) = some (some (.int .i64 0), 1, 8) := by kernel_rfl
theorem away2 {α : Type} {d : Kd α} {v : Value} {g lo hi : Nat} {x : α} {cs : List Value} {cs2 : Array Value} {t : TypeId} (h : ∀ k, v.ownBlock = some k → g + 1 ≤ k ∧ (k < lo ∨ hi ≤ k)) : ∀ y ∈ [Hold.val d lo hi x cs, Hold.box g cs2 t], ∀ k, v.ownBlock = some k → k < y.lo ∨ y.hi ≤ k := by
  intro y hy k hk
  have := h k hk
  rcases List.mem_cons.1 hy with rfl | hy
  · simp only [Hold.val]; omega
  · rcases List.mem_cons.1 hy with rfl | hy
    · simp only [Hold.box]; omega
    · exact absurd hy List.not_mem_nil
theorem wantsL_lenD (n : Node) : (wantsL n).length ≤ 3 := by
  unfold wantsL
  repeat' split
  all_goals simp
set_option maxHeartbeats 4000000 in
set_option maxRecDepth 100000 in
theorem cPartsI (n : Node) (cs : List Value) (w : World) (hk : kNodeI.K w n cs) (hl : n.list.length ≤ 1048576) :
    Calls Try.prog 113 #[.agg ⟨cs⟩] w fun e w' => ∃ v, e = .returned v ∧ (Kd.int .i64).R 3 w' w.heap.size (fun _ => True) v (kids n) ∧ Below w.heap.size w w' := by
  obtain ⟨A4, c4, A5, c5, rfl, h4, g4, h5, g5⟩ := kNodeI_open hk
  have G4 := Aside0.mk g4; have HK := Aside0.mk hk
  have hl4 : n.list.length ≤ 9223372036854775807 := g4.2.1
  clear hk g4 h4 h5 g5
  have hun := Try.underlying142
  have M0 := Aside0.mk ((Mem.start w).allocAt rfl #[.int .i64 n.kind, .int .i64 n.a, .int .i64 n.b, .int .i64 n.c, .slice A4 n.list.length c4, .slice A5 n.names.length c5, .int .u64 n.num, .int .i64 n.at_] 142)
  go_enter Try.func113, Try.ntmps113
  go_wp2_with ((with_reducible refine gate_dst (N := 8) rfl ?_); refine Kd.R_lit (Kd.int .i64) _ 3 ?hg (N := 8) ?hd (xs := ([] : List Int)) (inner := []) (ok := fun _ => True) (okp := fun _ => True) ?hr ?hp (fun _ hk => hk) trivial (Below.refl _ _) (Nat.le_refl _) (by simp) ?_; (case hd => rfl); (case hg => rfl); (case hr => first | (go_simp; done) | (go_simp; rfl)); (case hp => exact (Reps.none _ _)); intro v1 w1 ho hb hg_ hnew_; clear hg_ hnew_; have HO1 := Aside0.mk ho; have HB1 := Aside0.mk hb; clear ho hb; have zn := (M0.out.step HB1.out).box (.head _))
  have M1 := Aside0.mk (M0.out.step HB1.out)
  clear zn
  refine (cWants n _ _ (kNodeI.K_below M1.out.below HK.out)).mono ?_
  rintro e w2 ⟨v2, rfl, hr, hb⟩
  obtain ⟨lo2, hlo2⟩ : ∃ g, g = w1.heap.size := ⟨_, rfl⟩
  obtain ⟨hi2, hhi2⟩ : ∃ g, g = w2.heap.size := ⟨_, rfl⟩
  have M2 := Aside0.mk (M1.out.pushR hb hr)
  have HO2 := Aside0.mk (show (Kd.int .i64).R 3 w2 w.heap.size (fun k => w.heap.size + 1 ≤ k ∧ (k < lo2 ∨ hi2 ≤ k)) v1 ([] : List Int) from Kd.R_lower (Kd.R_below (Kd.R_mono (Kd.R_bound HO1.out) (fun k hk => ⟨by have := hk.2.1; simp at this; omega, .inl (by rw [hlo2]; exact hk.2.2.1)⟩)) hb) (by simp))
  rw [← hlo2, ← hhi2] at M2
  obtain ⟨v2A, v2c, rfl⟩ := Kd.R_slice hr
  clear hr hb M1 M0 HO1 HB1 hlo2 hhi2
  have hwl := wantsL_lenD n
  obtain ⟨W, hW⟩ : ∃ W, W = wantsL n := ⟨_, rfl⟩
  rw [← hW] at M2 hwl ⊢
  have HW := Aside0.mk hW; clear hW
  have zn := M2.out.box (.tail _ (.head _))
  go_wp2_with fail
  clear zn
  go_loopw [3, 16] (fun u v wr => ∃ (p : Nat), v = .int .i64 p ∧ p ≤ W.length ∧ Aside0 ((Kd.int .i64).R 3 wr w.heap.size (fun k => w.heap.size + 1 ≤ k ∧ (k < lo2 ∨ hi2 ≤ k)) u ((W.take p).map (fun v => v.x))) ∧ Aside0 (Mem w wr [Hold.val (Kd.slice 153 kWant) lo2 hi2 W [.slice v2A W.length v2c], Hold.box w.heap.size #[.int .i64 n.kind, .int .i64 n.a, .int .i64 n.b, .int .i64 n.c, .slice A4 n.list.length c4, .slice A5 n.names.length c5, .int .u64 n.num, .int .i64 n.at_] 142])) (fun u v _ => W.length - (intOf v).toNat)
  case atStart => exact ⟨0, rfl, by omega, HO2, M2⟩
  case round =>
  clear M2 HO2
  obtain ⟨p, rfl, hp, HO, M3⟩ := hrel
  by_cases hpt : p < W.length
  · have hpl : (p : Int) < (W.length : Int) := by omega
    obtain ⟨wa, hwa, wK, wx0, wx1⟩ := Want_at (Kd.R_reads' (M3.out.row (.head _))).2.2 p hpt
    cases hwa
    clear wK
    obtain ⟨x, cq, hv⟩ : ∃ x cq, el zWant W p = ⟨x, cq⟩ := ⟨_, _, rfl⟩
    rw [hv] at wx0 wx1
    dsimp only at wx0 wx1
    obtain ⟨fx, hfx⟩ : ∃ fx, fx = fnNo cq := ⟨_, rfl⟩
    rw [show fnV cq = Value.func (.func (fnNo cq)) #[] #[] from rfl, ← hfx] at wx1
    have HV := Aside0.mk hv; clear hv hfx
    have huw := Try.underlying153
    have M4 := Aside0.mk (M3.out.allocAt rfl #[.int .i64 x, .func (.func fx) #[] #[]] 153)
    have HOa := Aside0.mk (Kd.R_alloc HO.out (.cells #[.int .i64 x, .func (.func fx) #[] #[]] 153))
    have HFR := Aside0.mk (show ∀ k, (wr.alloc (.cells #[.int .i64 x, .func (.func fx) #[] #[]] 153)).heap.size ≤ k → w.heap.size + 1 ≤ k ∧ (k < lo2 ∨ hi2 ≤ k) from fun k hk => by
      have h1 := (M4.out.fits _ (.tail _ (.head _))).2
      have h2 := (M4.out.fits _ (.tail _ (.tail _ (.head _)))).2
      simp only [Hold.val, Hold.box] at h1 h2
      omega)
    have HSZ := Aside0.mk (M4.out.below.size)
    go_wp2_with ((with_reducible refine gate_builtin (b := .append) (xs := #[.tmp 20, .tmp 23]) rfl ?_); at_builtin; refine Kd.R_append (Kd.int .i64) (w0 := w) w.heap.size rfl (.tmp 20) (.tmp 23) 26 3 (.int .i64 0) 8 rfl Try.underlying26 infoInt rfl (by decide) (by omega) _ ((W.take p).map (fun v => v.x)) x [.int .i64 x] (fun k => w.heap.size + 1 ≤ k ∧ (k < lo2 ∨ hi2 ≤ k)) (fun _ => False) rfl ?aX ?aP (fun _ hk => hk.elim) ?aF ?aO ?aB ?aS ?aL ?_; (case aX => first | rfl | (go_simp; done) | (go_simp; rfl) | (simp; done)); (case aP => exact rfl); (case aF => exact HFR.out); (case aO => exact HOa.out); (case aB => exact M4.out.below); (case aS => exact HSZ.out); (case aL => simp only [List.length_map, List.length_take]; omega); intro v9 w9 ho hb9 hg hat; have HO9 := Aside0.mk ho; have M9 := Aside0.mk (Mem.grown M4.out.drop hb9 hg (away2 HOa.out.1)); clear ho hb9 hg hat)
    go_roundw
    case measure => simp [intOf]; omega
    case rel => exact ⟨p + 1, by go_num, by omega, ⟨by have h := HO9.out; rw [List.take_succ_eq_append_getElem hpt, List.map_append, ← el_lt zWant hpt, HV.out]; exact h⟩, M9⟩
  have hpl : ¬ (p : Int) < (W.length : Int) := by omega
  obtain rfl : p = W.length := by omega
  have zn := M3.out.box (.tail _ (.head _))
  go_wp2_with ((with_reducible refine gate_builtin (b := .append) (xs := #[.tmp 26, .tmp 28]) rfl ?_); at_builtin; refine Kd.R_append_rows (Kd.int .i64) (w0 := w) w.heap.size rfl (.tmp 26) (.tmp 28) 26 3 (.int .i64 0) 8 rfl Try.underlying26 infoInt rfl (by decide) (by omega) _ ((W.take W.length).map (fun v => v.x)) n.list _ _ _ (fun _ => True) (fun _ => False) rfl rfl ?aO ?aR (fun _ _ h => h) (fun _ h => h.elim) ?aF ?aB ?aS ?aL ?_; (case aR => exact Kd.C_below G4.out M3.out.below); (case aB => exact M3.out.below); (case aF => exact (fun _ _ => trivial)); (case aO => exact Kd.R_mono HO.out (fun _ _ => trivial)); (case aS => exact M3.out.below.size); (case aL => simp only [List.length_map, List.length_take]; omega); intro v10 w10 ho hb hg hat; have HO10 := Aside0.mk ho; have HB10 := Aside0.mk hb; clear ho hb hg hat)
  go_ret
  exact ⟨_, rfl, by have h := HO10.out; rw [List.take_length] at h; rw [kids_wants]; unfold wantsAll; rw [List.map_append, List.map_map, show (n.list.map ((fun v : Want => v.x) ∘ fun x => (⟨x, if n.kind = 29 then 2 else 0⟩ : Want))) = n.list from List.map_id' n.list, ← HW.out]; exact h, HB10.out⟩
end Go.Proofs.Ytlhfhfamifmijaa.LeafN
end
section
namespace Go.Proofs.Ytlhfhfamifmijaa.LeafN
open Go.RowKit Go.Proofs.YtlhfhfamifmijaaW.PrintWords Go.Proofs.YtlhfhfamifmijaaW.PrintMore Go.Proofs.Ytlhfhfamifmijaa.Law Go.Proofs.Ytlhfhfamifmijaa.Num Go.Proofs.Ytlhfhfamifmijaa
set_option linter.unusedVariables false
set_option linter.unusedSimpArgs false
set_option autoImplicit false
theorem max2_mxD (k k' : IntKind) (x y : Int) : Builtin.max2 (.int k x) (.int k' y) = pure (.int k (mx x y)) := by rw [max2_int]; rfl
attribute [local go_sem] max_two max2_mxD
theorem most_one (l : List Int) (h : 0 < l.length) (hp : ∀ y ∈ l, 0 ≤ y) : most (l.take 1) = el 0 l 0 := by
  cases l with
  | nil => simp at h
  | cons a l =>
    have := hp a (.head _)
    simp only [List.take_succ_cons, List.take_zero, most, List.foldl_cons, List.foldl_nil, el, List.getD_cons_zero]
    unfold mx
    split <;> omega
set_option maxHeartbeats 4000000 in
set_option maxRecDepth 100000 in
theorem cMax (A : Option Addr) (c : Nat) (l : List Int) (w : World) (hr : (Kd.int .i64).C w A l.length l) (h0 : 0 < l.length) (hp : ∀ y ∈ l, 0 ≤ y) :
    Calls Try.prog 114 #[.slice A l.length c] w fun e w' => e = .returned (.int .i64 (most l)) ∧ Drawn0 w w' := by
  have HR := Aside0.mk hr
  have hL : l.length ≤ 9223372036854775807 := hr.2.1
  clear hr
  have HM1 := Aside0.mk (most_one l h0 hp)
  clear hp
  obtain ⟨a, rfl, hx0⟩ := int_at HR.out 0 h0
  have hx1 : w.cell? a = some (.int .i64 (el 0 l 0)) := by have h := hx0; rwa [show a.add 0 = a from by cases a; rfl] at h
  have d1 : decide ((l.length : Int) < 1) = false := decide_eq_false (by omega)
  have d2 : ¬ (l.length : Int) < 1 := by omega
  have d3 : (0 : Int) < (l.length : Int) := by omega
  go_enter Try.func114, Try.ntmps114
  go_wp2_with fail
  go_loopw [3, 4] (fun u v wr => ∃ (j : Nat), v = .int .i64 j ∧ 1 ≤ j ∧ j ≤ l.length ∧ u = .int .i64 (most (l.take j)) ∧ Drawn0 w wr) (fun u v _ => l.length - (intOf v).toNat)
  case atStart => exact ⟨1, rfl, by omega, by omega, by rw [HM1.out], (by first | exact Drawn0.refl _ | exact ⟨⟨_, rfl⟩⟩)⟩
  case round =>
  obtain ⟨j, rfl, hj1, hj, rfl, ⟨⟨nn, rfl⟩⟩⟩ := hrel
  by_cases hlt : j < l.length
  · obtain ⟨a2, ha2, hxj⟩ := int_at HR.out j hlt
    cases ha2
    have i1 : (0 : Int) ≤ (j : Int) := by omega
    have i2 : (j : Int) < (l.length : Int) := by omega
    go_wp2
    go_roundw
    case measure => simp [intOf]; omega
    case rel => exact ⟨j + 1, by go_num, by omega, by omega, by rw [List.take_succ_eq_append_getElem hlt, most_snoc, ← el_lt 0 hlt], (by first | exact ⟨⟨_, rfl⟩⟩ | exact Drawn0.refl _)⟩
  have i2 : ¬ (j : Int) < (l.length : Int) := by omega
  obtain rfl : j = l.length := by omega
  go_wp2
  go_ret
  exact ⟨rfl, (by first | exact ⟨⟨_, rfl⟩⟩ | exact Drawn0.refl _)⟩
end Go.Proofs.Ytlhfhfamifmijaa.LeafN
end
section
namespace Go.Proofs.Ytlhfhfamifmijaa.LeafN
open Go.RowKit Go.Proofs.YtlhfhfamifmijaaW.PrintWords Go.Proofs.YtlhfhfamifmijaaW.PrintMore Go.Proofs.Ytlhfhfamifmijaa.Law Go.Proofs.Ytlhfhfamifmijaa.Num Go.Proofs.Ytlhfhfamifmijaa
set_option linter.unusedVariables false
set_option linter.unusedSimpArgs false
set_option autoImplicit false
attribute [local go_sem] max_two max2_mxD
set_option maxHeartbeats 8000000 in
set_option maxRecDepth 100000 in
theorem cImplDepthOf (A : Option Addr) (c : Nat) (t : List Node) (w : World) (hT : kNodeI.C w A t.length t) (hnum : ∀ n ∈ t, 0 ≤ n.num ∧ n.num < 18446744073709551616) (hlen : t.length ≤ 1048576) (hcap : t.length ≤ c) (hll : ∀ n ∈ t, n.list.length ≤ 1048576) :
    Calls Try.prog 58 #[.slice A t.length c] w fun e w' => e = .returned (.int .i64 (depthI t)) ∧ Below w.heap.size w w' := by
  have HT := Aside0.mk hT; have HNUM := Aside0.mk hnum; have HLL := Aside0.mk hll; have HCAP := Aside0.mk hcap
  clear hT hnum hll hcap
  by_cases htb : treeB t = true
  rotate_left
  · have hf : treeB t = false := by simpa using htb
    have HC := Aside0.mk (show depthI t = 0 by unfold depthI; rw [if_neg htb])
    have HF := Aside0.mk hf; clear hf htb
    go_enter Try.func58, Try.ntmps58
    go_wp2_with fail
    refine (cImplTreeOk A c t _ HT.out HNUM.out hlen HCAP.out HLL.out).mono ?_; rintro e w1 ⟨rfl, hb⟩
    have M1 := Aside0.mk ((Mem.start w).step hb); clear hb
    rw [HF.out]
    go_wp2
    go_ret
    exact ⟨by rw [HC.out]; rfl, M1.out.below⟩
  have HC := Aside0.mk (show depthI t = most (deepTo t t.length) by unfold depthI; rw [if_pos htb])
  have htl := tree_len htb
  have HF := Aside0.mk htb; clear htb
  go_enter Try.func58, Try.ntmps58
  go_wp2_with fail
  refine (cImplTreeOk A c t _ HT.out HNUM.out hlen HCAP.out HLL.out).mono ?_; rintro e w1 ⟨rfl, hb⟩
  have M1 := Aside0.mk ((Mem.start w).step hb); clear hb
  rw [HF.out]
  go_wp2_with (refine Kd.R_make (Kd.int .i64) _ 3 rfl (N := _) rfl _ _ _ rfl (t.length : Int) rfl rfl Try.underlying26 (.int .i64 0) 8 (by kernel_rfl) rfl (by decide) (by omega) 0 (ok := fun _ => True) (okp := fun _ => True) rfl (fun _ hk => hk) trivial (by omega) (by omega) (Below.refl _ _) (Nat.le_refl _) ?_; intro v1 w2 ho hb hg_ hnew_; clear hg_ hnew_; have M2 := Aside0.mk (M1.out.pushR hb ho); clear ho hb)
  obtain ⟨lo, hlo⟩ : ∃ g, g = w1.heap.size := ⟨_, rfl⟩
  obtain ⟨hi, hhi⟩ : ∃ g, g = w2.heap.size := ⟨_, rfl⟩
  rw [← hlo, ← hhi] at M2
  clear hlo hhi
  go_wp2_with fail
  go_loopw [16] (fun v wr => ∃ (j : Nat) (dj : List Int), v = .int .i64 j ∧ j ≤ t.length ∧ Aside0 (dj = deepTo t j) ∧ Aside0 (Mem w wr [Hold.val (Kd.slice 3 (Kd.int .i64)) lo hi dj [v1]])) (fun v _ => t.length - (intOf v).toNat)
  case atStart => exact ⟨0, _, rfl, by omega, ⟨by simp [deepTo]⟩, M2⟩
  case round =>
  clear M2
  obtain ⟨j, dj, rfl, hj, HD, M3⟩ := hrel
  by_cases hlt : j < t.length
  · have hdl : dj.length = t.length := by rw [HD.out]; exact deepTo_len t j
    obtain ⟨go, co, hv, gb, gl, cl, HG⟩ := Kd.R_form (M3.out.row (.head _)) (by omega)
    have hgg := (M3.out.row (.head _)).1 go (by rw [hv]; simp [Value.ownBlock])
    rw [hdl] at hv
    subst hv
    have HDL := Aside0.mk hdl; clear hdl
    have GB := Aside0.mk gb; have GG := Aside0.mk hgg; clear gb gl cl HG hgg
    have HNB := Aside0.mk (tree_nodeD HF.out hlt)
    obtain ⟨pa, pA4, pc4, pA5, pc5, hpa, pK, px0, px1, px2, px3, px4, px5, px6, px7⟩ := NodeI_at (Kd.C_below HT.out M3.out.below) j hlt
    cases hpa
    have HLN := Aside0.mk (HLL.out _ (el_mem zNode hlt))
    obtain ⟨n, hn⟩ : ∃ n, n = el zNode t j := ⟨_, rfl⟩
    rw [← hn] at px0 px1 px2 px3 px4 px5 px6 px7 pK HNB HLN
    have HN := Aside0.mk hn; clear hn
    have hun := Try.underlying142
    have i1 : (0 : Int) ≤ (j : Int) := by omega
    have i2 : (j : Int) < (t.length : Int) := by omega
    have PK := Aside0.mk (kNodeI.K_below (below_alloc (Below.refl wr.heap.size wr) (.cells #[.int .i64 n.kind, .int .i64 n.a, .int .i64 n.b, .int .i64 n.c, .slice pA4 n.list.length pc4, .slice pA5 n.names.length pc5, .int .u64 n.num, .int .i64 n.at_] 142)) pK); clear pK
    have M3b := Aside0.mk (M3.out.allocAt rfl #[.int .i64 n.kind, .int .i64 n.a, .int .i64 n.b, .int .i64 n.c, .slice pA4 n.list.length pc4, .slice pA5 n.names.length pc5, .int .u64 n.num, .int .i64 n.at_] 142)
    go_wp2_with fail
    clear px0 px1 px2 px3 px4 px5 px6 px7
    refine (cPartsI n _ _ PK.out HLN.out).mono ?_
    rintro e w4 ⟨v4, rfl, hr, hb⟩
    obtain ⟨K, hK⟩ : ∃ K, K = kids n := ⟨_, rfl⟩
    rw [← hK] at hr
    have M4 := Aside0.mk (M3b.out.pushR hb hr)
    obtain ⟨lo4, hlo4⟩ : ∃ g, g = (wr.alloc (.cells #[.int .i64 n.kind, .int .i64 n.a, .int .i64 n.b, .int .i64 n.c, .slice pA4 n.list.length pc4, .slice pA5 n.names.length pc5, .int .u64 n.num, .int .i64 n.at_] 142)).heap.size := ⟨_, rfl⟩
    obtain ⟨hi4, hhi4⟩ : ∃ g, g = w4.heap.size := ⟨_, rfl⟩
    rw [← hlo4, ← hhi4] at M4
    obtain ⟨kA, kc, rfl⟩ := Kd.R_slice hr
    have HK := Aside0.mk hK
    have HKB := Aside0.mk (show ∀ x ∈ K, 0 ≤ x ∧ x < (j : Int) by rw [hK]; exact node_kids HNB.out)
    have hkl : K.length ≤ 1048579 := by have := node_lists hK; have := HLN.out; omega
    clear hr hb hK hlo4 hhi4 PK M3b
    generalize hgn : wr.heap.size = gn at M4 ⊢
    have hju : (j : Int) < (t.length : Int) := by omega
    go_wp2_with fail
    go_loopw [24] (fun v wr => ∃ (k : Nat) (d : List Int), v = .int .i64 k ∧ k ≤ K.length ∧ Aside0 (d = dj.set j (lift dj (K.take k))) ∧ Aside0 (Mem w wr [Hold.val (Kd.slice 3 (Kd.int .i64)) lo4 hi4 K [.slice kA K.length kc], Hold.box gn #[.int .i64 n.kind, .int .i64 n.a, .int .i64 n.b, .int .i64 n.c, .slice pA4 n.list.length pc4, .slice pA5 n.names.length pc5, .int .u64 n.num, .int .i64 n.at_] 142, Hold.val (Kd.slice 3 (Kd.int .i64)) lo hi d [.slice (some ⟨go, 0, none⟩) t.length co]])) (fun v _ => K.length - (intOf v).toNat)
    case atStart => exact ⟨0, dj, rfl, by omega, ⟨(set_zero (by rw [HD.out]; exact deepTo_zero t j j (Nat.le_refl j)) (by have := HDL.out; omega)).symm⟩, M4⟩
    case round =>
    clear M4
    obtain ⟨k, d, rfl, hk, HDK, M6⟩ := hrel
    by_cases hkt : k < K.length
    · have hkl2 : (k : Int) < (K.length : Int) := by omega
      obtain ⟨ka, hka, hxk⟩ := int_at (Kd.R_reads' (M6.out.row (.head _))).2.2 k hkt
      cases hka
      have hxb := HKB.out _ (el_mem 0 hkt)
      obtain ⟨x, hx⟩ : ∃ x, x = el 0 K k := ⟨_, rfl⟩
      rw [← hx] at hxk hxb
      obtain ⟨jx, rfl⟩ : ∃ jx : Nat, x = jx := ⟨x.toNat, by omega⟩
      have HX := Aside0.mk hx; clear hx
      have hjd : j < dj.length := by have := HDL.out; omega
      obtain ⟨hy0, hg0⟩ := Kd.R_celln 0 (M6.out.row (.tail _ (.tail _ (.head _)))) (jx : Int) (by omega) (by omega)
      obtain ⟨hz0, hf0⟩ := Kd.R_celln 0 (M6.out.row (.tail _ (.tail _ (.head _)))) (j : Int) (by omega) hju
      rw [Int.toNat_natCast] at hy0 hg0 hz0 hf0
      rw [show rdOf 0 d (jx : Int) = rd dj (jx : Int) from by show rd d (jx : Int) = _; rw [HDK.out]; exact rd_set_ne (by omega) (by omega)] at hy0
      rw [show rdOf 0 d (j : Int) = lift dj (K.take k) from by show rd d (j : Int) = _; rw [HDK.out]; exact rd_set_eq hjd] at hz0
      have HTK := Aside0.mk (show lift dj (K.take (k + 1)) = mx (lift dj (K.take k)) (rd dj (jx : Int)) by rw [List.take_succ_eq_append_getElem hkt, lift_snoc, ← el_lt 0 hkt, ← HX.out])
      obtain ⟨a, ha⟩ : ∃ a, a = rd dj (jx : Int) := ⟨_, rfl⟩
      obtain ⟨b, hb⟩ : ∃ b, b = lift dj (K.take k) := ⟨_, rfl⟩
      rw [← ha] at hy0 HTK
      rw [← hb] at hz0 HTK
      have HA := Aside0.mk ha; have HB := Aside0.mk hb; clear ha hb hjd
      have j1 : (0 : Int) ≤ (jx : Int) := by omega
      have j2 : (jx : Int) < (t.length : Int) := by omega
      have R6 := M6.out.drew.row (.tail _ (.tail _ (.head _)))
      have M7 := Aside0.mk (show Mem w _ [Hold.val (Kd.slice 3 (Kd.int .i64)) lo4 hi4 K [.slice (some ka) K.length kc], Hold.box gn #[.int .i64 n.kind, .int .i64 n.a, .int .i64 n.b, .int .i64 n.c, .slice pA4 n.list.length pc4, .slice pA5 n.names.length pc5, .int .u64 n.num, .int .i64 n.at_] 142, Hold.val (Kd.slice 3 (Kd.int .i64)) lo hi (d.set (j : Int).toNat (mx b a)) [.slice (some ⟨go, 0, none⟩) t.length co]] from Mem.mark (A := [_, _]) M6.out.drew (below_set M6.out.drew.below (Nat.le_trans (M6.out.fits _ (.tail _ (.tail _ (.head _)))).1 GB.out)) (Kept.setCell (Kept.refl _ _) (.inl GG.out) _) ⟨_, rfl, (Kd.R_putg R6 (j : Int) (mx b a)).1⟩)
      clear R6
      go_upto_region 10 with fail
      go_still_tail 12, (by kernel_rfl)
      go_wp2
      go_roundw
      case measure => simp [intOf]; omega
      case rel => exact ⟨k + 1, _, by go_num, by omega, ⟨by rw [HTK.out, HDK.out, Int.toNat_natCast, set_set_same]⟩, M7⟩
    have hkl2 : ¬ (k : Int) < (K.length : Int) := by omega
    obtain rfl : k = K.length := by omega
    have hjd : j < dj.length := by have := HDL.out; omega
    obtain ⟨hz0, hf0⟩ := Kd.R_celln 0 (M6.out.row (.tail _ (.tail _ (.head _)))) (j : Int) (by omega) hju
    rw [Int.toNat_natCast] at hz0 hf0
    rw [show rdOf 0 d (j : Int) = lift dj K from by show rd d (j : Int) = _; rw [HDK.out, List.take_length]; exact rd_set_eq hjd] at hz0
    obtain ⟨b, hb⟩ : ∃ b, b = lift dj K := ⟨_, rfl⟩
    rw [← hb] at hz0
    have HB := Aside0.mk hb; clear hb hjd
    have R6 := M6.out.row (.tail _ (.tail _ (.head _)))
    have M7 := Aside0.mk (show Mem w _ [Hold.val (Kd.slice 3 (Kd.int .i64)) lo4 hi4 K [.slice kA K.length kc], Hold.box gn #[.int .i64 n.kind, .int .i64 n.a, .int .i64 n.b, .int .i64 n.c, .slice pA4 n.list.length pc4, .slice pA5 n.names.length pc5, .int .u64 n.num, .int .i64 n.at_] 142, Hold.val (Kd.slice 3 (Kd.int .i64)) lo hi (d.set (j : Int).toNat (wrap64 (b + 1))) [.slice (some ⟨go, 0, none⟩) t.length co]] from Mem.mark (A := [_, _]) M6.out (below_set M6.out.below (Nat.le_trans (M6.out.fits _ (.tail _ (.tail _ (.head _)))).1 GB.out)) (Kept.setCell (Kept.refl _ _) (.inl GG.out) _) ⟨_, rfl, (Kd.R_putg R6 (j : Int) (wrap64 (b + 1))).1⟩)
    clear R6
    have HW := Aside0.mk (show wrap64 (b + 1) = b + 1 by have h := lift_bound (deepTo_bound t j) (Int.natCast_nonneg j) K; rw [← HD.out, ← HB.out] at h; unfold wrap64; omega)
    go_wp2
    go_roundw
    case measure => simp [intOf]; omega
    case rel => exact ⟨j + 1, _, by go_num, by omega, ⟨by rw [HW.out, HDK.out, Int.toNat_natCast, set_set_same, HB.out, HD.out, HK.out, HN.out]; rfl⟩, ⟨M7.out.drop.drop⟩⟩
  have hjl : ¬ (j : Int) < (t.length : Int) := by omega
  obtain rfl : j = t.length := by omega
  have hdl : dj.length = t.length := by rw [HD.out]; exact deepTo_len t t.length
  have HE := Aside0.mk (show most dj = depthI t by rw [HC.out, HD.out])
  obtain ⟨vA, vc, hv⟩ := Kd.R_slice (M3.out.row (.head _))
  rw [hdl] at hv
  subst hv
  have HDL := Aside0.mk hdl; clear hdl
  have HCR := Aside0.mk (Kd.R_reads' (M3.out.row (.head _))).2.2
  go_wp2_with fail
  have C := cMax vA vc dj _ HCR.out (by have := HDL.out; omega) (fun y hy => by rw [HD.out] at hy; exact (deepTo_bound t t.length y hy).1)
  rw [HDL.out] at C
  refine C.mono ?_
  clear C
  rintro e w9 ⟨rfl, ⟨⟨n9, rfl⟩⟩⟩
  rw [HE.out]
  go_wp2
  go_ret
  exact ⟨rfl, (M3.out.draw _).below⟩
end Go.Proofs.Ytlhfhfamifmijaa.LeafN
end
section
namespace Go.Proofs.Ytlhfhfamifmijaa.LeafN
open Go.RowKit Go.Proofs.YtlhfhfamifmijaaW.PrintWords Go.Proofs.YtlhfhfamifmijaaW.PrintMore Go.Proofs.Ytlhfhfamifmijaa.Law Go.Proofs.Ytlhfhfamifmijaa.Num Go.Proofs.Ytlhfhfamifmijaa
set_option linter.unusedVariables false
set_option linter.unusedSimpArgs false
set_option autoImplicit false
set_option maxHeartbeats 8000000 in
set_option maxRecDepth 100000 in
theorem cSpecDepthOf (A : Option Addr) (c : Nat) (t : List Node) (w : World) (hT : kNodeI.C w A t.length t) (hnum : ∀ n ∈ t, 0 ≤ n.num ∧ n.num < 18446744073709551616) (hlen : t.length ≤ 1048576) (hll : ∀ n ∈ t, n.list.length ≤ 1048576) :
    Calls Try.prog 57 #[.slice A t.length c] w fun e w' => e = .returned (.int .i64 (depthI t)) ∧ Below w.heap.size w w' := by
  have HT := Aside0.mk hT; have HNUM := Aside0.mk hnum; have HLL := Aside0.mk hll
  clear hT hnum hll
  by_cases htb : treeB t = true
  rotate_left
  · have hf : treeB t = false := by simpa using htb
    have HC := Aside0.mk (show depthI t = 0 by unfold depthI; rw [if_neg htb])
    have HF := Aside0.mk hf; clear hf htb
    go_enter Try.func57, Try.ntmps57
    go_wp2_with fail
    refine (cSpecTreeOk A c t _ HT.out HNUM.out hlen).mono ?_; rintro e w1 ⟨rfl, hb⟩
    have M1 := Aside0.mk ((Mem.start w).step hb); clear hb
    rw [HF.out]
    go_wp2
    go_ret
    exact ⟨by rw [HC.out]; rfl, M1.out.below⟩
  have HC := Aside0.mk (show depthI t = most (deepTo t t.length) by unfold depthI; rw [if_pos htb])
  have htl := tree_len htb
  have HF := Aside0.mk htb; clear htb
  go_enter Try.func57, Try.ntmps57
  go_wp2_with fail
  refine (cSpecTreeOk A c t _ HT.out HNUM.out hlen).mono ?_; rintro e w1 ⟨rfl, hb⟩
  have M1 := Aside0.mk ((Mem.start w).step hb); clear hb
  rw [HF.out]
  go_wp2_with (refine Kd.R_make (Kd.int .i64) _ 3 rfl (N := _) rfl _ _ _ rfl (t.length : Int) rfl rfl Try.underlying26 (.int .i64 0) 8 (by kernel_rfl) rfl (by decide) (by omega) 0 (ok := fun _ => True) (okp := fun _ => True) rfl (fun _ hk => hk) trivial (by omega) (by omega) (Below.refl _ _) (Nat.le_refl _) ?_; intro v1 w2 ho hb hg_ hnew_; clear hg_ hnew_; have M2 := Aside0.mk (M1.out.pushR hb ho); clear ho hb)
  obtain ⟨lo, hlo⟩ : ∃ g, g = w1.heap.size := ⟨_, rfl⟩
  obtain ⟨hi, hhi⟩ : ∃ g, g = w2.heap.size := ⟨_, rfl⟩
  rw [← hlo, ← hhi] at M2
  clear hlo hhi
  go_wp2_with fail
  go_loopw [4, 5] (fun u v wr => ∃ (j : Nat) (dj : List Int), v = .int .i64 j ∧ j ≤ t.length ∧ u = .int .i64 (most (dj.take j)) ∧ Aside0 (dj = deepTo t j) ∧ Aside0 (Mem w wr [Hold.val (Kd.slice 3 (Kd.int .i64)) lo hi dj [v1]])) (fun u v _ => t.length - (intOf v).toNat)
  case atStart => exact ⟨0, _, rfl, by omega, rfl, ⟨by simp [deepTo]⟩, M2⟩
  case round =>
  clear M2
  obtain ⟨j, dj, rfl, hj, rfl, HD, M3⟩ := hrel
  by_cases hlt : j < t.length
  · have hdl : dj.length = t.length := by rw [HD.out]; exact deepTo_len t j
    obtain ⟨go, co, hv, gb, gl, cl, HG⟩ := Kd.R_form (M3.out.row (.head _)) (by omega)
    have hgg := (M3.out.row (.head _)).1 go (by rw [hv]; simp [Value.ownBlock])
    rw [hdl] at hv
    subst hv
    have HDL := Aside0.mk hdl; clear hdl
    have GB := Aside0.mk gb; have GG := Aside0.mk hgg; clear gb gl cl HG hgg
    have HNB := Aside0.mk (tree_nodeD HF.out hlt)
    obtain ⟨pa, pA4, pc4, pA5, pc5, hpa, pK, px0, px1, px2, px3, px4, px5, px6, px7⟩ := NodeI_at (Kd.C_below HT.out M3.out.below) j hlt
    cases hpa
    have hun := Try.underlying142
    have i1 : (0 : Int) ≤ (j : Int) := by omega
    have i2 : (j : Int) < (t.length : Int) := by omega
    have PK := Aside0.mk pK; clear pK
    go_wp2_with fail
    clear px0 px1 px2 px3 px4 px5 px6 px7
    refine (cKidsS (el zNode t j) _ _ PK.out (node_c HNB.out) (HLL.out _ (el_mem zNode hlt))).mono ?_
    rintro e w4 ⟨v4, rfl, hr, hb⟩
    obtain ⟨K, hK⟩ : ∃ K, K = kids (el zNode t j) := ⟨_, rfl⟩
    rw [← hK] at hr
    obtain ⟨lo4, hlo4⟩ : ∃ g, g = wr.heap.size := ⟨_, rfl⟩
    obtain ⟨hi4, hhi4⟩ : ∃ g, g = w4.heap.size := ⟨_, rfl⟩
    have M4 := Aside0.mk (M3.out.pushR hb hr)
    rw [← hlo4, ← hhi4] at M4
    obtain ⟨kA, kc, rfl⟩ := Kd.R_slice hr
    have HK := Aside0.mk hK
    have HKB := Aside0.mk (show ∀ x ∈ K, 0 ≤ x ∧ x < (j : Int) by rw [hK]; exact node_kids HNB.out)
    have hkl : K.length ≤ 1048579 := by have := node_lists hK; have := HLL.out _ (el_mem zNode hlt); omega
    clear hr hb hK hlo4 hhi4 PK
    have hju : (j : Int) < (t.length : Int) := by omega
    have R4 := M4.out.row (.tail _ (.head _))
    obtain ⟨hx0, hf0⟩ := Kd.R_celln 0 R4 (j : Int) (by omega) hju
    rw [Int.toNat_natCast] at hx0 hf0
    have M5 := Aside0.mk (show Mem w (w4.setCell ⟨go, j, none⟩ (.int .i64 1)) ([Hold.val (Kd.slice 3 (Kd.int .i64)) lo4 hi4 K [.slice kA K.length kc], Hold.val (Kd.slice 3 (Kd.int .i64)) lo hi (dj.set (j : Int).toNat 1) [.slice (some ⟨go, 0, none⟩) t.length co]]) from Mem.mark (A := [_]) M4.out (below_set M4.out.below (Nat.le_trans (M4.out.fits _ (.tail _ (.head _))).1 GB.out)) (Kept.setCell (Kept.refl _ _) (.inl GG.out) _) ⟨_, rfl, (Kd.R_putg R4 (j : Int) 1).1⟩)
    clear R4
    go_wp2_with fail
    clear hx0 hf0
    go_loopw [7] (fun v wr => ∃ (k : Nat) (d : List Int), v = .int .i64 k ∧ k ≤ K.length ∧ Aside0 (d = dj.set j (lift dj (K.take k) + 1)) ∧ Aside0 (Mem w wr ([Hold.val (Kd.slice 3 (Kd.int .i64)) lo4 hi4 K [.slice kA K.length kc], Hold.val (Kd.slice 3 (Kd.int .i64)) lo hi d [.slice (some ⟨go, 0, none⟩) t.length co]]))) (fun v _ => K.length - (intOf v).toNat)
    case atStart => exact ⟨0, _, rfl, by omega, ⟨rfl⟩, M5⟩
    case round =>
    clear M5
    obtain ⟨k, d, rfl, hk, HDK, M6⟩ := hrel
    by_cases hkt : k < K.length
    · have hkl2 : (k : Int) < (K.length : Int) := by omega
      obtain ⟨ka, hka, hxk⟩ := int_at (Kd.R_reads' (M6.out.row (.head _))).2.2 k hkt
      cases hka
      have hxb := HKB.out _ (el_mem 0 hkt)
      obtain ⟨x, hx⟩ : ∃ x, x = el 0 K k := ⟨_, rfl⟩
      rw [← hx] at hxk hxb
      obtain ⟨jx, rfl⟩ : ∃ jx : Nat, x = jx := ⟨x.toNat, by omega⟩
      have HX := Aside0.mk hx; clear hx
      have hjd : j < dj.length := by have := HDL.out; omega
      obtain ⟨hy0, hg0⟩ := Kd.R_celln 0 (M6.out.row (.tail _ (.head _))) (jx : Int) (by omega) (by omega)
      obtain ⟨hz0, hf0⟩ := Kd.R_celln 0 (M6.out.row (.tail _ (.head _))) (j : Int) (by omega) hju
      rw [Int.toNat_natCast] at hy0 hg0 hz0 hf0
      rw [show rdOf 0 d (jx : Int) = rd dj (jx : Int) from by show rd d (jx : Int) = _; rw [HDK.out]; exact rd_set_ne (by omega) (by omega)] at hy0
      rw [show rdOf 0 d (j : Int) = lift dj (K.take k) + 1 from by show rd d (j : Int) = _; rw [HDK.out]; exact rd_set_eq hjd] at hz0
      have HBD := Aside0.mk (rd_bound (deepTo_bound t j) (Int.natCast_nonneg j) (jx : Int))
      have HTK := Aside0.mk (show lift dj (K.take (k + 1)) = mx (lift dj (K.take k)) (rd dj (jx : Int)) by rw [List.take_succ_eq_append_getElem hkt, lift_snoc, ← el_lt 0 hkt, ← HX.out])
      obtain ⟨a, ha⟩ : ∃ a, a = rd dj (jx : Int) := ⟨_, rfl⟩
      obtain ⟨b, hb⟩ : ∃ b, b = lift dj (K.take k) := ⟨_, rfl⟩
      rw [← ha] at hy0 HTK
      rw [← hb] at hz0 HTK
      rw [← HD.out, ← ha] at HBD
      have HA := Aside0.mk ha; have HB := Aside0.mk hb; clear ha hb
      have j1 : (0 : Int) ≤ (jx : Int) := by omega
      have j2 : (jx : Int) < (t.length : Int) := by omega
      have HJD := Aside0.mk hjd; clear hjd
      have R6 := M6.out.row (.tail _ (.head _))
      by_cases hge : b + 1 ≤ a
      · have d1 : decide (b + 1 ≤ a) = true := decide_eq_true hge
        have d2 : decide (a ≥ b + 1) = true := decide_eq_true hge
        have d3 : decide (a < b + 1) = false := decide_eq_false (by omega)
        have HGE := Aside0.mk hge; clear hge
        go_upto_region 13 with fail
        go_quiet (fail)
        have M7 := Aside0.mk (show Mem w _ ([Hold.val (Kd.slice 3 (Kd.int .i64)) lo4 hi4 K [.slice (some ka) K.length kc], Hold.val (Kd.slice 3 (Kd.int .i64)) lo hi (d.set (j : Int).toNat (wrap64 (a + 1))) [.slice (some ⟨go, 0, none⟩) t.length co]]) from Mem.mark (A := [_]) (M6.out.draw nq) (below_set (M6.out.draw nq).below (Nat.le_trans (M6.out.fits _ (.tail _ (.head _))).1 GB.out)) (Kept.setCell (Kept.refl _ _) (.inl GG.out) _) ⟨_, rfl, (Kd.R_putg (Kd.R_drewN R6 nq) (j : Int) (wrap64 (a + 1))).1⟩)
        clear R6
        go_wp2
        go_roundw
        case measure => simp [intOf]; omega
        case rel => exact ⟨k + 1, _, by go_num, by omega, ⟨by rw [HTK.out, HDK.out, Int.toNat_natCast, set_set_same, show wrap64 (a + 1) = mx b a + 1 from by have h1 := HBD.out; have h2 := HGE.out; rw [show mx b a = a from by unfold mx; rw [if_pos (by omega)]]; unfold wrap64; omega]⟩, M7⟩
      · have d1 : decide (b + 1 ≤ a) = false := decide_eq_false hge
        have d2 : decide (a ≥ b + 1) = false := decide_eq_false hge
        have d3 : decide (a < b + 1) = true := decide_eq_true (by omega)
        have HGE := Aside0.mk hge; clear hge R6
        go_upto_region 13 with fail
        go_quiet (fail)
        go_wp2
        go_roundw
        case measure => simp [intOf]; omega
        case rel => exact ⟨k + 1, d, by go_num, by omega, ⟨by rw [HTK.out, HDK.out, show mx b a = b from by have h2 := HGE.out; unfold mx; rw [if_neg (by omega)], HB.out]⟩, ⟨M6.out.draw _⟩⟩
    have hkl2 : ¬ (k : Int) < (K.length : Int) := by omega
    obtain rfl : k = K.length := by omega
    have hjd : j < dj.length := by have := HDL.out; omega
    have HDN := Aside0.mk (show d = deepTo t (j + 1) by rw [HDK.out, List.take_length, HD.out, HK.out]; rfl)
    obtain ⟨hz0, hf0⟩ := Kd.R_celln 0 (M6.out.row (.tail _ (.head _))) (j : Int) (by omega) hju
    rw [Int.toNat_natCast] at hz0
    obtain ⟨b, hb⟩ : ∃ b, b = rdOf 0 d (j : Int) := ⟨_, rfl⟩
    rw [← hb] at hz0
    have HTS := Aside0.mk (show d.take (j + 1) = dj.take j ++ [b] by rw [hb, show rdOf 0 d (j : Int) = rd d (j : Int) from rfl, HDK.out, rd_set_eq hjd, take_succ_set _ _ _ hjd])
    clear hb hf0 hjd
    obtain ⟨m0, hm0⟩ : ∃ m0, m0 = most (dj.take j) := ⟨_, rfl⟩
    rw [← hm0]
    have HM0 := Aside0.mk hm0; clear hm0
    by_cases hgt : m0 < b
    · have d1 : decide (m0 < b) = true := decide_eq_true hgt
      have d2 : decide (b > m0) = true := decide_eq_true hgt
      have HGT := Aside0.mk hgt
      go_wp2_with fail
      go_roundw
      case measure => simp [intOf]; omega
      case rel => exact ⟨j + 1, d, by go_num, by omega, by rw [HTS.out, most_snoc, ← HM0.out]; unfold mx; rw [if_pos (by have := HGT.out; omega)], HDN, ⟨M6.out.drop⟩⟩
    · have d1 : decide (m0 < b) = false := decide_eq_false hgt
      have d2 : decide (b > m0) = false := decide_eq_false hgt
      have HGT := Aside0.mk hgt
      go_wp2_with fail
      go_roundw
      case measure => simp [intOf]; omega
      case rel => exact ⟨j + 1, d, by go_num, by omega, by rw [HTS.out, most_snoc, ← HM0.out]; unfold mx; rw [if_neg (by have := HGT.out; omega)], HDN, ⟨M6.out.drop⟩⟩
  have hjl : ¬ (j : Int) < (t.length : Int) := by omega
  obtain rfl : j = t.length := by omega
  have HE := Aside0.mk (show most (dj.take t.length) = depthI t by rw [HC.out, HD.out, show (deepTo t t.length).take t.length = deepTo t t.length from List.take_of_length_le (by rw [deepTo_len]; exact Nat.le_refl _)])
  rw [HE.out]
  go_wp2
  go_ret
  exact ⟨rfl, M3.out.below⟩
end Go.Proofs.Ytlhfhfamifmijaa.LeafN
end
section
namespace Go.Proofs.Ytlhfhfamifmijaa.WalkFnExactDepthOf
open Go.RowKit Go.Proofs.YtlhfhfamifmijaaW.PrintWords Go.Proofs.YtlhfhfamifmijaaW.PrintMore Go.Proofs.Ytlhfhfamifmijaa.Law Go.Proofs.Ytlhfhfamifmijaa.Num Go.Proofs.Ytlhfhfamifmijaa Go.Proofs.Ytlhfhfamifmijaa.LeafN
set_option linter.unusedVariables false
set_option linter.unusedSimpArgs false
set_option autoImplicit false
set_option maxHeartbeats 8000000 in
set_option maxRecDepth 100000 in
theorem w1 (A : Option Addr) (c : Nat) (l : List Node) (w : World) (hr : kNodeL.C w A l.length l) (hgood : ∀ y ∈ l, GoodNode y) (e1 : sub 1048576 (sizeNodeS l) = -1) :
    Calls Try.prog 13 #[.slice A l.length c] w fun e w' => e = .returned (.bool true) ∧ Below w.heap.size w w' := by
  have HR := Aside0.mk hr; clear hr
  go_enter Try.func13, Try.ntmps13
  go_wp2_with fail
  have C := szNodeS A c l 1048576 _ HR.out hgood (by omega) (by omega)
  rw [e1] at C
  refine C.mono ?_; clear C
  rintro e w1 ⟨rfl, hb⟩
  have M1 := Aside0.mk ((Mem.start w).step hb); clear hb
  go_wp2
  go_ret
  exact ⟨rfl, M1.out.below⟩
set_option maxHeartbeats 8000000 in
set_option maxRecDepth 100000 in
theorem w2 (A : Option Addr) (c : Nat) (l : List Node) (w : World) (hr : kNodeL.C w A l.length l) (hgood : ∀ y ∈ l, GoodNode y) (s1 : Int) (e1 : sub 1048576 (sizeNodeS l) = s1) (n1 : 0 ≤ s1) (hlen : l.length ≤ 1048576) (hll : ∀ y ∈ l, LenNode y) (hnum : ∀ n ∈ l, 0 ≤ n.num ∧ n.num < 18446744073709551616) :
    Calls Try.prog 13 #[.slice A l.length c] w fun e w' => e = .returned (.bool true) ∧ Below w.heap.size w w' := by
  have HR := Aside0.mk hr; clear hr
  go_enter Try.func13, Try.ntmps13
  go_wp2_with fail
  have C := szNodeS A c l 1048576 _ HR.out hgood (by omega) (by omega)
  rw [e1] at C
  refine C.mono ?_; clear C
  rintro e w1 ⟨rfl, hb⟩
  have M1 := Aside0.mk ((Mem.start w).step hb); clear hb
  have m1 : decide (s1 < 0) = false := by simp; omega
  have HLL := Aside0.mk hll; have HNUM := Aside0.mk hnum; have HG := Aside0.mk hgood; clear hll hnum hgood
  go_wp2_with fail
  refine (toNodeS A c l _ (Kd.C_below HR.out M1.out.below) hlen HLL.out).mono ?_; rintro e w2 ⟨v2, rfl, hr, hb⟩
  obtain ⟨A2, c2, rfl, hc, hC⟩ := Kd.R_reads hr; have CC2 := Aside0.mk hC; have CP2 := Aside0.mk hc; clear hC hc
  have M2 := Aside0.mk (M1.out.pushR hb hr); clear hr hb
  go_wp2_with fail
  refine (cSpecDepthOf A2 c2 l _ CC2.out HNUM.out hlen (fun n hn => (HLL.out n hn).1)).mono ?_; rintro e w3 ⟨rfl, hb⟩
  have M3 := Aside0.mk (M2.out.step hb); clear hb
  go_wp2_with fail
  refine (toNodeS A c l _ (Kd.C_below HR.out M3.out.below) hlen HLL.out).mono ?_; rintro e w4 ⟨v4, rfl, hr, hb⟩
  obtain ⟨A4, c4, rfl, hc, hC⟩ := Kd.R_reads hr; have CC4 := Aside0.mk hC; have CP4 := Aside0.mk hc; clear hC hc
  have M4 := Aside0.mk (M3.out.pushR hb hr); clear hr hb
  go_wp2_with fail
  refine (cImplDepthOf A4 c4 l _ CC4.out HNUM.out hlen CP4.out (fun n hn => (HLL.out n hn).1)).mono ?_; rintro e w5 ⟨rfl, hb⟩
  have M5 := Aside0.mk (M4.out.step hb); have CC5 := Aside0.mk (Kd.C_below CC4.out hb); clear hb
  have hrr : ((depthI l) != (depthI l)) = false := by simp
  go_wp2_with fail
  refine (toNodeS A c l _ (Kd.C_below HR.out M5.out.below) hlen HLL.out).mono ?_; rintro e w6 ⟨v6, rfl, hr, hb⟩
  obtain ⟨A6, c6, rfl, hc, hC⟩ := Kd.R_reads hr; have CC6 := Aside0.mk hC; clear hC hc
  have M6 := Aside0.mk (M5.out.pushR hb hr); have CC7 := Aside0.mk (Kd.C_below CC5.out hb); clear hr hb
  go_wp2_with fail
  have C := eqNodeS A4 A6 c4 c6 l l _ CC7.out CC6.out; rw [decide_eq_true rfl] at C; refine C.mono ?_; clear C; rintro e w8 ⟨rfl, hb⟩
  have M8 := Aside0.mk (M6.out.step hb); clear hb
  go_wp2
  go_ret
  exact ⟨rfl, M8.out.below⟩
end Go.Proofs.Ytlhfhfamifmijaa.WalkFnExactDepthOf
end
