/- Part 17 of the proof: general lemmas, contracts of functions, walks. No condition of its own. -/
import Derived.Test.YtkgdjhhokbbheaaDoorProg
import Derived.Test.YtkgdjhhokbbheaaDoorPB12
import Derived.Test.YtkgdjhhokbbheaaDoorPB15
import Derived.Test.YtkgdjhhokbbheaaDoorPB16
import Derived.Test.YtkgdjhhokbbheaaDoorPB1
import Derived.Test.YtkgdjhhokbbheaaDoorPB11
import Derived.Test.YtkgdjhhokbbheaaDoorPB5
section
namespace Go.Proofs.YtkgdjhhokbbheaaDoor.QFnExactShowFunc
open Go.RowKit Go.Proofs.YtkgdjhhokbbheaaDoorW.PrintWords Go.Proofs.YtkgdjhhokbbheaaDoorW.PrintLast Go.Proofs.YtkgdjhhokbbheaaDoorW.PrintMore
attribute [local go_sem] max_two min_two max_three min_three max_four min_four run_field112_0 max2_mx min2_mn   -- for this text's walks alone
set_option linter.unusedVariables false
set_option linter.unusedSimpArgs false
mutual
def impl_ImageOk.j0 : Nat → Bool → List (S54) → List (S74) → Option (Bool)
  | 0, _, _, _ => none
  | k + 1, x34, x289000, x289001 => if x34 = true then (some false) else (impl_ImageOk.l0 k x289001 (x289001.length : Int) 0 x289000 x289001)
def impl_ImageOk.l0 : Nat → List (S74) → Int → Int → List (S54) → List (S74) → Option (Bool)
  | 0, _, _, _, _, _ => none
  | k + 1, x36, x37, x38, x289000, x289001 => if x38 < x37 then (if 0 ≤ x38 then (if x38 < (x36.length : Int) then ((impl_ConstOk.f ((rd_T74 x36 x38).f0) ((rd_T74 x36 x38).f1) ((rd_T74 x36 x38).f2)).bind fun t294 => (if t294 = true then (impl_ImageOk.l0 k x36 x37 (wrap64 (x38 + 1)) x289000 x289001) else (some false))) else (none)) else (none)) else (impl_ImageOk.l1 k x289000 (x289000.length : Int) 0)
def impl_ImageOk.l1 : Nat → List (S54) → Int → Int → Option (Bool)
  | 0, _, _, _ => none
  | k + 1, x47, x48, x49 => if x49 < x48 then (if 0 ≤ x49 then (if x49 < (x47.length : Int) then ((impl_funcOk.f k ((rd_T54 x47 x49).f0) ((rd_T54 x47 x49).f1) ((rd_T54 x47 x49).f2) ((rd_T54 x47 x49).f3) ((rd_T54 x47 x49).f4)).bind fun t297 => (if t297 = true then (impl_ImageOk.l1 k x47 x48 (wrap64 (x49 + 1))) else (some false))) else (none)) else (none)) else (some true)
end
def impl_ImageOk.f (k : Nat) (l0_0 : List (S54)) (l0_1 : List (S74)) : Option (Bool) := (impl_within.f (l0_0.length : Int) 1 16).bind fun t289 => (if t289 = true then (if (l0_1.length : Int) > 40 then (impl_ImageOk.j0 k true l0_0 l0_1) else (if 0 < (l0_0.length : Int) then (if ((rd_T54 l0_0 0).f0) = 0 then (impl_ImageOk.j0 k (decide ((((rd_T54 l0_0 0).f2).length : Int) > 0)) l0_0 l0_1) else (impl_ImageOk.j0 k true l0_0 l0_1)) else (none))) else (impl_ImageOk.j0 k true l0_0 l0_1))
theorem impl_ImageOk.mono_l : ∀ k, (∀ y0 y1 y2, LeO (impl_ImageOk.j0 k y0 y1 y2) (impl_ImageOk.j0 (k + 1) y0 y1 y2)) ∧ (∀ y0 y1 y2 y3 y4, LeO (impl_ImageOk.l0 k y0 y1 y2 y3 y4) (impl_ImageOk.l0 (k + 1) y0 y1 y2 y3 y4)) ∧ (∀ y0 y1 y2, LeO (impl_ImageOk.l1 k y0 y1 y2) (impl_ImageOk.l1 (k + 1) y0 y1 y2))
  | 0 => ⟨fun _ _ _ r h => by simp [impl_ImageOk.j0] at h, fun _ _ _ _ _ r h => by simp [impl_ImageOk.l0] at h, fun _ _ _ r h => by simp [impl_ImageOk.l1] at h⟩
  | k + 1 => by
    obtain ⟨ih0, ih1, ih2⟩ := impl_ImageOk.mono_l k
    refine ⟨?_, ?_, ?_⟩
    · intro y0 y1 y2
      unfold impl_ImageOk.j0
      repeat' first
      | (with_reducible exact ih0 _ _ _)
      | (with_reducible exact ih1 _ _ _ _ _)
      | (with_reducible exact ih2 _ _ _)
      | (with_reducible exact impl_funcOk.mono _ _ _ _ _ _)
      | (with_reducible exact LeO.refl _)
      | (with_reducible exact LeO.none _)
      | (with_reducible refine LeO.ite ?_ ?_)
      | (with_reducible refine LeO.bind ?_ (fun _ => ?_))
      | exact ih0 _ _ _
      | exact ih1 _ _ _ _ _
      | exact ih2 _ _ _
      | exact impl_funcOk.mono _ _ _ _ _ _
      | exact LeO.none _
      | refine LeO.ite ?_ ?_
      | refine LeO.bind ?_ (fun _ => ?_)
    · intro y0 y1 y2 y3 y4
      unfold impl_ImageOk.l0
      repeat' first
      | (with_reducible exact ih0 _ _ _)
      | (with_reducible exact ih1 _ _ _ _ _)
      | (with_reducible exact ih2 _ _ _)
      | (with_reducible exact impl_funcOk.mono _ _ _ _ _ _)
      | (with_reducible exact LeO.refl _)
      | (with_reducible exact LeO.none _)
      | (with_reducible refine LeO.ite ?_ ?_)
      | (with_reducible refine LeO.bind ?_ (fun _ => ?_))
      | exact ih0 _ _ _
      | exact ih1 _ _ _ _ _
      | exact ih2 _ _ _
      | exact impl_funcOk.mono _ _ _ _ _ _
      | exact LeO.none _
      | refine LeO.ite ?_ ?_
      | refine LeO.bind ?_ (fun _ => ?_)
    · intro y0 y1 y2
      unfold impl_ImageOk.l1
      repeat' first
      | (with_reducible exact ih0 _ _ _)
      | (with_reducible exact ih1 _ _ _ _ _)
      | (with_reducible exact ih2 _ _ _)
      | (with_reducible exact impl_funcOk.mono _ _ _ _ _ _)
      | (with_reducible exact LeO.refl _)
      | (with_reducible exact LeO.none _)
      | (with_reducible refine LeO.ite ?_ ?_)
      | (with_reducible refine LeO.bind ?_ (fun _ => ?_))
      | exact ih0 _ _ _
      | exact ih1 _ _ _ _ _
      | exact ih2 _ _ _
      | exact impl_funcOk.mono _ _ _ _ _ _
      | exact LeO.none _
      | refine LeO.ite ?_ ?_
      | refine LeO.bind ?_ (fun _ => ?_)
theorem impl_ImageOk.mono : ∀ a0 a1 k, LeO (impl_ImageOk.f k a0 a1) (impl_ImageOk.f (k + 1) a0 a1) := by
  intro a0 a1 k
  obtain ⟨ih0, ih1, ih2⟩ := impl_ImageOk.mono_l k
  unfold impl_ImageOk.f
  repeat' first
      | (with_reducible exact ih0 _ _ _)
      | (with_reducible exact ih1 _ _ _ _ _)
      | (with_reducible exact ih2 _ _ _)
      | (with_reducible exact impl_funcOk.mono _ _ _ _ _ _)
      | (with_reducible exact LeO.refl _)
      | (with_reducible exact LeO.none _)
      | (with_reducible refine LeO.ite ?_ ?_)
      | (with_reducible refine LeO.bind ?_ (fun _ => ?_))
      | exact ih0 _ _ _
      | exact ih1 _ _ _ _ _
      | exact ih2 _ _ _
      | exact impl_funcOk.mono _ _ _ _ _ _
      | exact LeO.none _
      | refine LeO.ite ?_ ?_
      | refine LeO.bind ?_ (fun _ => ?_)
set_option maxHeartbeats 8000000 in
set_option maxRecDepth 100000 in
theorem impl_ImageOk.calls (k : Nat) (A0_0 : Option Addr) (c0_0 : Nat) (l0_0 : List (S54)) (A0_1 : Option Addr) (c0_1 : Nat) (l0_1 : List (S74)) (r : Bool) (w : World) (hr0_0 : Kd.C k54 w A0_0 l0_0.length l0_0) (hc0_0 : l0_0.length ≤ c0_0) (hr0_1 : Kd.C k74 w A0_1 l0_1.length l0_1) (hc0_1 : l0_1.length ≤ c0_1) (h : impl_ImageOk.f k l0_0 l0_1 = some r) :
    Calls Tryd.prog 24 #[.agg #[.slice A0_0 l0_0.length c0_0, .slice A0_1 l0_1.length c0_1]] w fun e w' => e = .returned (.bool r) ∧ Below w.heap.size w w' := by
  have hu37 := Tryd.underlying37
  have hu74 := Tryd.underlying74
  have hu54 := Tryd.underlying54
  have HR0_0 := Aside0.mk hr0_0
  have HC0_0 := Aside0.mk hc0_0
  clear hr0_0 hc0_0
  have HR0_1 := Aside0.mk hr0_1
  have HC0_1 := Aside0.mk hc0_1
  clear hr0_1 hc0_1
  have HB := Aside0.mk (Below.refl w.heap.size w)
  have H : ((impl_within.f (l0_0.length : Int) 1 16).bind fun t289 => (if t289 = true then (if (l0_1.length : Int) > 40 then (impl_ImageOk.j0 k true l0_0 l0_1) else (if 0 < (l0_0.length : Int) then (if ((rd_T54 l0_0 0).f0) = 0 then (impl_ImageOk.j0 k (decide ((((rd_T54 l0_0 0).f2).length : Int) > 0)) l0_0 l0_1) else (impl_ImageOk.j0 k true l0_0 l0_1)) else (none))) else (impl_ImageOk.j0 k true l0_0 l0_1))) = some r := h
  clear h
  have HC2 := Aside0.mk H
  clear H
  go_enter Tryd.func24, Tryd.ntmps24
  go_upto_region 1 with (first | ((with_reducible refine gate_dst (N := 1) rfl ?_); (try (refine gate_guard (by rfl) ?_; dsimp only)); refine box_event ?hg (N := 1) ?hd (cs := #[.slice A0_0 l0_0.length c0_0, .slice A0_1 l0_1.length c0_1]) (t := 37) ?hr ?_; (case hd => rfl); (case hg => rfl); (case hr => first | (go_simp; done) | (go_simp; rfl)); intro gb288 hg w3 hbox hb; have n0_ := Aside0.mk (below_step (by repeat (first | (with_reducible first | exact HB.out | apply below_alloc | apply pw_below_drewN | apply below_drew1) | exact HB.out)) hb); have n1_ := Aside0.mk (hbox); have n2_ := Aside0.mk ((by rw [hg]; exact (below_size (by repeat (first | (with_reducible first | exact HB.out | apply below_alloc | apply pw_below_drewN | apply below_drew1) | exact HB.out))) : w.heap.size ≤ gb288)); have n3_ := Aside0.mk ((by rw [hg]; exact (below_size (by repeat (first | (with_reducible first | exact HB.out | apply below_alloc | apply pw_below_drewN | apply below_drew1) | exact HB.out))) : w.heap.size ≤ gb288)); clear HB; have HB := n0_; have BK288 := n1_; have GW288 := n2_; have GE288 := n3_; clear n0_ n1_ n2_ n3_; clear hb hbox hg))
  (try simp only [Act.put, List.setIfInBounds_toArray, List.set_cons_zero, List.set_cons_succ])
  go_cut [34] (fun v34 wc => ∃ (kq : Nat) (x34_1 : Bool), v34 = .bool x34_1 ∧ Aside0 (impl_ImageOk.j0 kq x34_1 l0_0 l0_1 = some r) ∧ Aside0 (kq ≤ k) ∧ Aside0 (wc.heap[gb288]? = some (.cells #[(.slice A0_0 l0_0.length c0_0), (.slice A0_1 l0_1.length c0_1)] 37 (0, 0))) ∧ Aside0 (Below w.heap.size w wc))
  case first =>
    have H := HC2.out
    clear HC2
    replace H := Option.bind_eq_some_iff.mp H
    obtain ⟨t289, A40, H⟩ := H
    replace H : (if t289 = true then (if (l0_1.length : Int) > 40 then (impl_ImageOk.j0 k true l0_0 l0_1) else (if 0 < (l0_0.length : Int) then (if ((rd_T54 l0_0 0).f0) = 0 then (impl_ImageOk.j0 k (decide ((((rd_T54 l0_0 0).f2).length : Int) > 0)) l0_0 l0_1) else (impl_ImageOk.j0 k true l0_0 l0_1)) else (none))) else (impl_ImageOk.j0 k true l0_0 l0_1)) = some r := H
    have A4 := Aside0.mk A40
    clear A40
    by_cases c5 : t289 = true
    · subst c5
      have H1 : (if (l0_1.length : Int) > 40 then (impl_ImageOk.j0 k true l0_0 l0_1) else (if 0 < (l0_0.length : Int) then (if ((rd_T54 l0_0 0).f0) = 0 then (impl_ImageOk.j0 k (decide ((((rd_T54 l0_0 0).f2).length : Int) > 0)) l0_0 l0_1) else (impl_ImageOk.j0 k true l0_0 l0_1)) else (none))) = some r := by rw [if_pos rfl] at H; exact H
      clear H
      have H := H1
      clear H1
      by_cases c6 : (l0_1.length : Int) > 40
      · rw [if_pos c6] at H
        have c6b0 : decide (40 < (l0_1.length : Int)) = true := decide_eq_true c6
        have c6b1 : decide (40 < l0_1.length) = true := decide_eq_true (by omega)
        clear c6
        (first | rw [c6b0] | (simp only [i64_w, i32_w]; rw [c6b0]) | skip)
        have H' := Aside0.mk H
        clear H
        have hcz7_0 : w3.cell? ⟨gb288, 0, none⟩ = some (.slice A0_0 l0_0.length c0_0) := (blk_cell BK288.out 0).trans rfl
        have hcz7_1 : w3.cell? ⟨gb288, 1, none⟩ = some (.slice A0_1 l0_1.length c0_1) := (blk_cell BK288.out 1).trans rfl
        have hfz7_0 := blk_frozen BK288.out 0
        have hfz7_1 := blk_frozen BK288.out 1
        go_wp2_with (first | ((with_reducible refine gate_callee (f := 16) rfl ?_); refine goesL_ (some 10) rfl rfl Tryd.func16 (by kernel_rfl) rfl #[.int .i64 (l0_0.length : Int), .int .i64 1, .int .i64 16] rfl (by (try simp only [List.map_toArray, List.map_cons, List.map_nil]); first | done | rfl | (simp only [List.length_drop, List.length_take]; rfl)) ?_; (with_reducible refine (impl_within.calls (l0_0.length : Int) 1 16 true _ A4.out).mono ?_); rintro e w' ⟨rfl, ⟨nd, rfl⟩⟩; refine ⟨_, rfl, ?_⟩))
        go_meet
        case rel => exact ⟨_, (true), (by first | rfl | (simp; done) | (simp [*]; done)), H', ⟨by first | omega | exact Nat.le_refl _⟩, ⟨by (with_reducible repeat (first | refine blk_drewN ?_ _ | refine blk_drew ?_ | refine blk_alloc ?_ _)); exact BK288.out⟩, ⟨by repeat (first | (with_reducible first | exact HB.out | apply below_alloc | apply pw_below_drewN | apply below_drew1 | refine below_set ?_ GE288.out) | exact HB.out)⟩⟩
      · rw [if_neg c6] at H
        have c6b0 : decide (40 < (l0_1.length : Int)) = false := decide_eq_false c6
        have c6b1 : decide (40 < l0_1.length) = false := decide_eq_false (by omega)
        clear c6
        (first | rw [c6b0] | (simp only [i64_w, i32_w]; rw [c6b0]) | skip)
        by_cases c8 : 0 < (l0_0.length : Int)
        · rw [if_pos c8] at H
          have c8b0 : decide (0 < (l0_0.length : Int)) = true := decide_eq_true c8
          have c8b1 : decide (0 < l0_0.length) = true := decide_eq_true (by omega)
          clear c8
          by_cases c9 : ((rd_T54 l0_0 0).f0) = 0
          · rw [if_pos c9] at H
            have c9b0 : (((rd_T54 l0_0 0).f0) == 0) = true := beq_iff_eq.mpr c9
            have c9b1 : (((rd_T54 l0_0 0).f0) != 0) = false := bne_eq_false_iff_eq.mpr c9
            clear c9
            have H' := Aside0.mk H
            clear H
            have hcz10_0 : w3.cell? ⟨gb288, 0, none⟩ = some (.slice A0_0 l0_0.length c0_0) := (blk_cell BK288.out 0).trans rfl
            have hcz10_1 : w3.cell? ⟨gb288, 1, none⟩ = some (.slice A0_1 l0_1.length c0_1) := (blk_cell BK288.out 1).trans rfl
            have hfz10_0 := blk_frozen BK288.out 0
            have hfz10_1 := blk_frozen BK288.out 1
            go_wp2_with (first | ((with_reducible refine gate_callee (f := 16) rfl ?_); refine goesL_ (some 10) rfl rfl Tryd.func16 (by kernel_rfl) rfl #[.int .i64 (l0_0.length : Int), .int .i64 1, .int .i64 16] rfl (by (try simp only [List.map_toArray, List.map_cons, List.map_nil]); first | done | rfl | (simp only [List.length_drop, List.length_take]; rfl)) ?_; (with_reducible refine (impl_within.calls (l0_0.length : Int) 1 16 true _ A4.out).mono ?_); rintro e w' ⟨rfl, ⟨nd, rfl⟩⟩; refine ⟨_, rfl, ?_⟩; have p290 : 0 ≤ (0 : Int) := (by omega); have q290 : 0 < (l0_0.length : Int) := of_decide_eq_true (by first | (with_reducible assumption) | assumption); obtain ⟨ad290, A290_2, c290_2, A290_3, c290_3, A290_4, c290_4, e290, hx290_0, hx290_1, hx290_2, hx290_3, hx290_4, hl290_2, hi290_2, hl290_3, hi290_3, hl290_4, hi290_4⟩ := at_T54 HR0_0.out 0 p290 q290; cases e290; have qi290 : (0 < l0_0.length) = True := eq_true (by omega); (try rw [show ((0 : Int)).toNat = 0 from rfl] at hx290_0); (try rw [show 0 * 5 = 0 from rfl] at hx290_0); (try rw [Addr.add_zero'] at hx290_0); (try rw [show ((0 : Int)).toNat = 0 from rfl] at hx290_1); (try rw [show 0 * 5 = 0 from rfl] at hx290_1); (try rw [Addr.add_zero'] at hx290_1); (try rw [show ((0 : Int)).toNat = 0 from rfl] at hx290_2); (try rw [show 0 * 5 = 0 from rfl] at hx290_2); (try rw [Addr.add_zero'] at hx290_2); (try rw [show ((0 : Int)).toNat = 0 from rfl] at hx290_3); (try rw [show 0 * 5 = 0 from rfl] at hx290_3); (try rw [Addr.add_zero'] at hx290_3); (try rw [show ((0 : Int)).toNat = 0 from rfl] at hx290_4); (try rw [show 0 * 5 = 0 from rfl] at hx290_4); (try rw [Addr.add_zero'] at hx290_4); replace hx290_0 := (HB.out.cell (World.block_lt_of_cell? w _ hx290_0)).trans hx290_0; replace hx290_1 := (HB.out.cell (World.block_lt_of_cell? w _ hx290_1)).trans hx290_1; replace hx290_2 := (HB.out.cell (World.block_lt_of_cell? w _ hx290_2)).trans hx290_2; replace hx290_3 := (HB.out.cell (World.block_lt_of_cell? w _ hx290_3)).trans hx290_3; replace hx290_4 := (HB.out.cell (World.block_lt_of_cell? w _ hx290_4)).trans hx290_4; have HR290_2 := Aside0.mk hi290_2; have HC290_2 := Aside0.mk hl290_2; clear hi290_2 hl290_2; have HR290_3 := Aside0.mk hi290_3; have HC290_3 := Aside0.mk hl290_3; clear hi290_3 hl290_3; have HR290_4 := Aside0.mk hi290_4; have HC290_4 := Aside0.mk hl290_4; clear hi290_4 hl290_4; replace p290 := eq_true p290; replace q290 := eq_true q290; have p291 : 0 ≤ (0 : Int) := (by omega); have q291 : 0 < (l0_0.length : Int) := of_decide_eq_true (by first | (with_reducible assumption) | assumption); obtain ⟨ad291, A291_2, c291_2, A291_3, c291_3, A291_4, c291_4, e291, hx291_0, hx291_1, hx291_2, hx291_3, hx291_4, hl291_2, hi291_2, hl291_3, hi291_3, hl291_4, hi291_4⟩ := at_T54 HR0_0.out 0 p291 q291; obtain rfl : ad290 = ad291 := (by injection e291); have qi291 : (0 < l0_0.length) = True := eq_true (by omega); (try rw [show ((0 : Int)).toNat = 0 from rfl] at hx291_0); (try rw [show 0 * 5 = 0 from rfl] at hx291_0); (try rw [Addr.add_zero'] at hx291_0); (try rw [show ((0 : Int)).toNat = 0 from rfl] at hx291_1); (try rw [show 0 * 5 = 0 from rfl] at hx291_1); (try rw [Addr.add_zero'] at hx291_1); (try rw [show ((0 : Int)).toNat = 0 from rfl] at hx291_2); (try rw [show 0 * 5 = 0 from rfl] at hx291_2); (try rw [Addr.add_zero'] at hx291_2); (try rw [show ((0 : Int)).toNat = 0 from rfl] at hx291_3); (try rw [show 0 * 5 = 0 from rfl] at hx291_3); (try rw [Addr.add_zero'] at hx291_3); (try rw [show ((0 : Int)).toNat = 0 from rfl] at hx291_4); (try rw [show 0 * 5 = 0 from rfl] at hx291_4); (try rw [Addr.add_zero'] at hx291_4); replace hx291_0 := (HB.out.cell (World.block_lt_of_cell? w _ hx291_0)).trans hx291_0; replace hx291_1 := (HB.out.cell (World.block_lt_of_cell? w _ hx291_1)).trans hx291_1; replace hx291_2 := (HB.out.cell (World.block_lt_of_cell? w _ hx291_2)).trans hx291_2; replace hx291_3 := (HB.out.cell (World.block_lt_of_cell? w _ hx291_3)).trans hx291_3; replace hx291_4 := (HB.out.cell (World.block_lt_of_cell? w _ hx291_4)).trans hx291_4; have HR291_2 := Aside0.mk hi291_2; have HC291_2 := Aside0.mk hl291_2; clear hi291_2 hl291_2; have HR291_3 := Aside0.mk hi291_3; have HC291_3 := Aside0.mk hl291_3; clear hi291_3 hl291_3; have HR291_4 := Aside0.mk hi291_4; have HC291_4 := Aside0.mk hl291_4; clear hi291_4 hl291_4; replace p291 := eq_true p291; replace q291 := eq_true q291; have ea_ := Option.some.inj (hx290_2.symm.trans hx291_2); injection ea_ with ea_ en_ ec_; subst ea_; subst ec_; clear en_; have ea_ := Option.some.inj (hx290_3.symm.trans hx291_3); injection ea_ with ea_ en_ ec_; subst ea_; subst ec_; clear en_; have ea_ := Option.some.inj (hx290_4.symm.trans hx291_4); injection ea_ with ea_ en_ ec_; subst ea_; subst ec_; clear en_))
            go_meet
            case rel => exact ⟨_, (decide ((((rd_T54 l0_0 0).f2).length : Int) > 0)), (by first | rfl | (simp; done) | (simp [*]; done)), H', ⟨by first | omega | exact Nat.le_refl _⟩, ⟨by (with_reducible repeat (first | refine blk_drewN ?_ _ | refine blk_drew ?_ | refine blk_alloc ?_ _)); exact BK288.out⟩, ⟨by repeat (first | (with_reducible first | exact HB.out | apply below_alloc | apply pw_below_drewN | apply below_drew1 | refine below_set ?_ GE288.out) | exact HB.out)⟩⟩
          · rw [if_neg c9] at H
            have c9b0 : (((rd_T54 l0_0 0).f0) == 0) = false := beq_eq_false_iff_ne.mpr c9
            have c9b1 : (((rd_T54 l0_0 0).f0) != 0) = true := bne_iff_ne.mpr c9
            have H' := Aside0.mk H
            clear H
            have hcz11_0 : w3.cell? ⟨gb288, 0, none⟩ = some (.slice A0_0 l0_0.length c0_0) := (blk_cell BK288.out 0).trans rfl
            have hcz11_1 : w3.cell? ⟨gb288, 1, none⟩ = some (.slice A0_1 l0_1.length c0_1) := (blk_cell BK288.out 1).trans rfl
            have hfz11_0 := blk_frozen BK288.out 0
            have hfz11_1 := blk_frozen BK288.out 1
            go_wp2_with (first | ((with_reducible refine gate_callee (f := 16) rfl ?_); refine goesL_ (some 10) rfl rfl Tryd.func16 (by kernel_rfl) rfl #[.int .i64 (l0_0.length : Int), .int .i64 1, .int .i64 16] rfl (by (try simp only [List.map_toArray, List.map_cons, List.map_nil]); first | done | rfl | (simp only [List.length_drop, List.length_take]; rfl)) ?_; (with_reducible refine (impl_within.calls (l0_0.length : Int) 1 16 true _ A4.out).mono ?_); rintro e w' ⟨rfl, ⟨nd, rfl⟩⟩; refine ⟨_, rfl, ?_⟩; have p290 : 0 ≤ (0 : Int) := (by omega); have q290 : 0 < (l0_0.length : Int) := of_decide_eq_true (by first | (with_reducible assumption) | assumption); obtain ⟨ad290, A290_2, c290_2, A290_3, c290_3, A290_4, c290_4, e290, hx290_0, hx290_1, hx290_2, hx290_3, hx290_4, hl290_2, hi290_2, hl290_3, hi290_3, hl290_4, hi290_4⟩ := at_T54 HR0_0.out 0 p290 q290; cases e290; have qi290 : (0 < l0_0.length) = True := eq_true (by omega); (try rw [show ((0 : Int)).toNat = 0 from rfl] at hx290_0); (try rw [show 0 * 5 = 0 from rfl] at hx290_0); (try rw [Addr.add_zero'] at hx290_0); (try rw [show ((0 : Int)).toNat = 0 from rfl] at hx290_1); (try rw [show 0 * 5 = 0 from rfl] at hx290_1); (try rw [Addr.add_zero'] at hx290_1); (try rw [show ((0 : Int)).toNat = 0 from rfl] at hx290_2); (try rw [show 0 * 5 = 0 from rfl] at hx290_2); (try rw [Addr.add_zero'] at hx290_2); (try rw [show ((0 : Int)).toNat = 0 from rfl] at hx290_3); (try rw [show 0 * 5 = 0 from rfl] at hx290_3); (try rw [Addr.add_zero'] at hx290_3); (try rw [show ((0 : Int)).toNat = 0 from rfl] at hx290_4); (try rw [show 0 * 5 = 0 from rfl] at hx290_4); (try rw [Addr.add_zero'] at hx290_4); replace hx290_0 := (HB.out.cell (World.block_lt_of_cell? w _ hx290_0)).trans hx290_0; replace hx290_1 := (HB.out.cell (World.block_lt_of_cell? w _ hx290_1)).trans hx290_1; replace hx290_2 := (HB.out.cell (World.block_lt_of_cell? w _ hx290_2)).trans hx290_2; replace hx290_3 := (HB.out.cell (World.block_lt_of_cell? w _ hx290_3)).trans hx290_3; replace hx290_4 := (HB.out.cell (World.block_lt_of_cell? w _ hx290_4)).trans hx290_4; have HR290_2 := Aside0.mk hi290_2; have HC290_2 := Aside0.mk hl290_2; clear hi290_2 hl290_2; have HR290_3 := Aside0.mk hi290_3; have HC290_3 := Aside0.mk hl290_3; clear hi290_3 hl290_3; have HR290_4 := Aside0.mk hi290_4; have HC290_4 := Aside0.mk hl290_4; clear hi290_4 hl290_4; replace p290 := eq_true p290; replace q290 := eq_true q290))
            go_meet
            case rel => exact ⟨_, (true), (by first | rfl | (simp; done) | (simp [*]; done)), H', ⟨by first | omega | exact Nat.le_refl _⟩, ⟨by (with_reducible repeat (first | refine blk_drewN ?_ _ | refine blk_drew ?_ | refine blk_alloc ?_ _)); exact BK288.out⟩, ⟨by repeat (first | (with_reducible first | exact HB.out | apply below_alloc | apply pw_below_drewN | apply below_drew1 | refine below_set ?_ GE288.out) | exact HB.out)⟩⟩
        · rw [if_neg c8] at H
          exact absurd H (by simp)
    · replace c5 := Bool.eq_false_iff.mpr c5
      subst c5
      have H1 : (impl_ImageOk.j0 k true l0_0 l0_1) = some r := by rw [if_neg (show ¬ (false = true) by decide)] at H; exact H
      clear H
      have H := H1
      clear H1
      have H' := Aside0.mk H
      clear H
      have hcz12_0 : w3.cell? ⟨gb288, 0, none⟩ = some (.slice A0_0 l0_0.length c0_0) := (blk_cell BK288.out 0).trans rfl
      have hcz12_1 : w3.cell? ⟨gb288, 1, none⟩ = some (.slice A0_1 l0_1.length c0_1) := (blk_cell BK288.out 1).trans rfl
      have hfz12_0 := blk_frozen BK288.out 0
      have hfz12_1 := blk_frozen BK288.out 1
      go_wp2_with (first | ((with_reducible refine gate_callee (f := 16) rfl ?_); refine goesL_ (some 10) rfl rfl Tryd.func16 (by kernel_rfl) rfl #[.int .i64 (l0_0.length : Int), .int .i64 1, .int .i64 16] rfl (by (try simp only [List.map_toArray, List.map_cons, List.map_nil]); first | done | rfl | (simp only [List.length_drop, List.length_take]; rfl)) ?_; (with_reducible refine (impl_within.calls (l0_0.length : Int) 1 16 false _ A4.out).mono ?_); rintro e w' ⟨rfl, ⟨nd, rfl⟩⟩; refine ⟨_, rfl, ?_⟩))
      go_meet
      case rel => exact ⟨_, (true), (by first | rfl | (simp; done) | (simp [*]; done)), H', ⟨by first | omega | exact Nat.le_refl _⟩, ⟨by (with_reducible repeat (first | refine blk_drewN ?_ _ | refine blk_drew ?_ | refine blk_alloc ?_ _)); exact BK288.out⟩, ⟨by repeat (first | (with_reducible first | exact HB.out | apply below_alloc | apply pw_below_drewN | apply below_drew1 | refine below_set ?_ GE288.out) | exact HB.out)⟩⟩
  case rest =>
    clear HC2
    try clear c1
    try clear c2
    try clear p2
    try clear q2
    try clear hx2
    try clear qi2
    try clear c5
    try clear c6
    try clear c6b0
    try clear c6b1
    try clear c8
    try clear c8b0
    try clear c8b1
    try clear c9
    try clear c9b0
    try clear c9b1
    try clear hcz10_0
    try clear hcz10_1
    try clear hcz11_0
    try clear hcz11_1
    try clear hcz12_0
    try clear hcz12_1
    try clear hcz7_0
    try clear hcz7_1
    try clear hfz10_0
    try clear hfz10_1
    try clear hfz11_0
    try clear hfz11_1
    try clear hfz12_0
    try clear hfz12_1
    try clear hfz7_0
    try clear hfz7_1
    try clear hx290_0
    try clear hx290_1
    try clear hx290_2
    try clear hx290_3
    try clear hx290_4
    try clear hx291_0
    try clear hx291_1
    try clear hx291_2
    try clear hx291_3
    try clear hx291_4
    try clear p290
    try clear p291
    try clear q290
    try clear q291
    obtain ⟨kq, x34_1, rfl, HA, HJ1, BK288, HB⟩ := hcut
    cases kq with
    | zero => exact absurd HA.out (by simp [impl_ImageOk.j0])
    | succ kj1 =>
      have H := HA.out
      clear HA
      simp only [impl_ImageOk.j0] at H
      by_cases c13 : x34_1 = true
      · subst c13
        have H1 : (some false) = some r := by rw [if_pos rfl] at H; exact H
        clear H
        have H := H1
        clear H1
        obtain rfl := Option.some.inj H
        go_wp2
        go_ret
        exact ⟨by first | rfl | (simp; done) | (simp [errW_none, errW_some] <;> rfl) | (simp [*, errW_none, errW_some] <;> rfl) | (simp [bne, List.isEmpty_iff]; done) | (rw [Bool.eq_iff_iff]; simp), by repeat (first | (with_reducible first | exact HB.out | apply below_alloc | apply pw_below_drewN | apply below_drew1 | refine below_set ?_ GE288.out) | exact HB.out)⟩
      · replace c13 := Bool.eq_false_iff.mpr c13
        subst c13
        have H1 : (impl_ImageOk.l0 kj1 l0_1 (l0_1.length : Int) 0 l0_0 l0_1) = some r := by rw [if_neg (show ¬ (false = true) by decide)] at H; exact H
        clear H
        have H := H1
        clear H1
        have H' := Aside0.mk H
        clear H
        have hcz14_0 : wc.cell? ⟨gb288, 0, none⟩ = some (.slice A0_0 l0_0.length c0_0) := (blk_cell BK288.out 0).trans rfl
        have hcz14_1 : wc.cell? ⟨gb288, 1, none⟩ = some (.slice A0_1 l0_1.length c0_1) := (blk_cell BK288.out 1).trans rfl
        have hfz14_0 := blk_frozen BK288.out 0
        have hfz14_1 := blk_frozen BK288.out 1
        go_wp2
        go_loopg [38] kj1 (fun kq v38 w' => ∃ (x38_2 : Int), v38 = .int .i64 x38_2 ∧ Aside0 (impl_ImageOk.l0 kq l0_1 (l0_1.length : Int) x38_2 l0_0 l0_1 = some r) ∧ Aside0 (kq ≤ kj1) ∧ Aside0 (w'.heap[gb288]? = some (.cells #[(.slice A0_0 l0_0.length c0_0), (.slice A0_1 l0_1.length c0_1)] 37 (0, 0))) ∧ Aside0 (Below w.heap.size w w'))
        case atStart => exact ⟨(0), (by first | rfl | (simp; done) | (simp [*]; done)), H', ⟨Nat.le_refl _⟩, ⟨by (with_reducible repeat (first | refine blk_drewN ?_ _ | refine blk_drew ?_ | refine blk_alloc ?_ _)); exact BK288.out⟩, ⟨by repeat (first | (with_reducible first | exact HB.out | apply below_alloc | apply pw_below_drewN | apply below_drew1 | refine below_set ?_ GE288.out) | exact HB.out)⟩⟩
        case round =>
          clear H'
          try clear c1
          try clear c2
          try clear p2
          try clear q2
          try clear hx2
          try clear qi2
          try clear c5
          try clear c6
          try clear c6b0
          try clear c6b1
          try clear c8
          try clear c8b0
          try clear c8b1
          try clear c9
          try clear c9b0
          try clear c9b1
          try clear c13
          try clear hcz10_0
          try clear hcz10_1
          try clear hcz11_0
          try clear hcz11_1
          try clear hcz12_0
          try clear hcz12_1
          try clear hcz14_0
          try clear hcz14_1
          try clear hcz7_0
          try clear hcz7_1
          try clear hfz10_0
          try clear hfz10_1
          try clear hfz11_0
          try clear hfz11_1
          try clear hfz12_0
          try clear hfz12_1
          try clear hfz14_0
          try clear hfz14_1
          try clear hfz7_0
          try clear hfz7_1
          try clear hx290_0
          try clear hx290_1
          try clear hx290_2
          try clear hx290_3
          try clear hx290_4
          try clear hx291_0
          try clear hx291_1
          try clear hx291_2
          try clear hx291_3
          try clear hx291_4
          try clear p2
          try clear p290
          try clear p291
          try clear q2
          try clear q290
          try clear q291
          obtain ⟨x38_2, rfl, HA, HK2, BK288, HB⟩ := hrel
          cases gk with
          | zero => exact absurd HA.out (by simp [impl_ImageOk.l0])
          | succ k2 =>
            have H := HA.out
            clear HA
            simp only [impl_ImageOk.l0] at H
            by_cases c15 : x38_2 < (l0_1.length : Int)
            · rw [if_pos c15] at H
              have c15b0 : decide (x38_2 < (l0_1.length : Int)) = true := decide_eq_true c15
              clear c15
              by_cases c16 : 0 ≤ x38_2
              · rw [if_pos c16] at H
                have c16b0 : decide (0 ≤ x38_2) = true := decide_eq_true c16
                clear c16
                by_cases c17 : x38_2 < (l0_1.length : Int)
                · rw [if_pos c17] at H
                  have c17b0 : decide (x38_2 < (l0_1.length : Int)) = true := decide_eq_true c17
                  clear c17
                  replace H := Option.bind_eq_some_iff.mp H
                  obtain ⟨t294, A180, H⟩ := H
                  replace H : (if t294 = true then (impl_ImageOk.l0 k2 l0_1 (l0_1.length : Int) (wrap64 (x38_2 + 1)) l0_0 l0_1) else (some false)) = some r := H
                  have A18 := Aside0.mk A180
                  clear A180
                  by_cases c19 : t294 = true
                  · subst c19
                    have H1 : (impl_ImageOk.l0 k2 l0_1 (l0_1.length : Int) (wrap64 (x38_2 + 1)) l0_0 l0_1) = some r := by rw [if_pos rfl] at H; exact H
                    clear H
                    have H := H1
                    clear H1
                    have H' := Aside0.mk H
                    clear H
                    have p292 : 0 ≤ (x38_2 : Int) := of_decide_eq_true (by first | (with_reducible assumption) | assumption)
                    have q292 : x38_2 < (l0_1.length : Int) := of_decide_eq_true (by first | (with_reducible assumption) | assumption)
                    obtain ⟨ad292, e292, hx292_0, hx292_1, hx292_2⟩ := at_T74 HR0_1.out x38_2 p292 q292
                    cases e292
                    replace hx292_0 := (HB.out.cell (World.block_lt_of_cell? w _ hx292_0)).trans hx292_0
                    replace hx292_1 := (HB.out.cell (World.block_lt_of_cell? w _ hx292_1)).trans hx292_1
                    replace hx292_2 := (HB.out.cell (World.block_lt_of_cell? w _ hx292_2)).trans hx292_2
                    replace p292 := eq_true p292
                    replace q292 := eq_true q292
                    go_wp2_with (first | ((with_reducible refine gate_dst (N := 4) rfl ?_); (try (refine gate_guard (by rfl) ?_; dsimp only)); refine box_event ?hg (N := 4) ?hd (cs := #[.int .i64 0, .int .u64 0, .string (⟨#[]⟩ : ByteArray)]) (t := 74) ?hr ?_; (case hd => rfl); (case hg => rfl); (case hr => first | (go_simp; done) | (go_simp; rfl)); intro gb293 hg w20 hbox hb; have n0_ := Aside0.mk (blk_below (g := gb288) (o := .cells #[.slice A0_0 l0_0.length c0_0, .slice (some ad292) l0_1.length c0_1] 37 (0, 0)) (by (with_reducible repeat (first | refine blk_drewN ?_ _ | refine blk_drew ?_ | refine blk_alloc ?_ _)); exact BK288.out) hb); have n1_ := Aside0.mk (below_step (by repeat (first | (with_reducible first | exact HB.out | apply below_alloc | apply pw_below_drewN | apply below_drew1 | refine below_set ?_ GE288.out) | exact HB.out)) hb); have n2_ := Aside0.mk (hbox); have n3_ := Aside0.mk ((by rw [hg]; exact (below_size (by repeat (first | (with_reducible first | exact HB.out | apply below_alloc | apply pw_below_drewN | apply below_drew1 | refine below_set ?_ GE288.out) | exact HB.out))) : w.heap.size ≤ gb293)); have n4_ := Aside0.mk ((by rw [hg]; exact (below_size (by repeat (first | (with_reducible first | exact HB.out | apply below_alloc | apply pw_below_drewN | apply below_drew1 | refine below_set ?_ GE288.out) | exact HB.out))) : w.heap.size ≤ gb293)); have n5_ := Aside0.mk ((by rw [hg]; exact Nat.ne_of_lt (blk_lt (g := gb288) (o := .cells #[.slice A0_0 l0_0.length c0_0, .slice (some ad292) l0_1.length c0_1] 37 (0, 0)) (by (with_reducible repeat (first | refine blk_drewN ?_ _ | refine blk_drew ?_ | refine blk_alloc ?_ _)); exact BK288.out)) : gb288 ≠ gb293)); have n6_ := Aside0.mk ((by rw [hg]; exact Nat.ne_of_gt (blk_lt (g := gb288) (o := .cells #[.slice A0_0 l0_0.length c0_0, .slice (some ad292) l0_1.length c0_1] 37 (0, 0)) (by (with_reducible repeat (first | refine blk_drewN ?_ _ | refine blk_drew ?_ | refine blk_alloc ?_ _)); exact BK288.out)) : gb293 ≠ gb288)); clear BK288; clear HB; have BK288 := n0_; have HB := n1_; have BK293 := n2_; have GW293 := n3_; have GE293 := n4_; have NB288_293 := n5_; have NB293_288 := n6_; clear n0_ n1_ n2_ n3_ n4_ n5_ n6_; clear hb hbox hg; have hnb21 := NB293_288.out; have hnc21 := NB288_293.out; have hcz22_0 : w20.cell? ⟨gb293, 0, none⟩ = some (.int .i64 0) := (blk_cell BK293.out 0).trans rfl; have hcz22_1 : w20.cell? ⟨gb293, 1, none⟩ = some (.int .u64 0) := (blk_cell BK293.out 1).trans rfl; have hcz22_2 : w20.cell? ⟨gb293, 2, none⟩ = some (.string (⟨#[]⟩ : ByteArray)) := (blk_cell BK293.out 2).trans rfl; have hfz22_0 := blk_frozen BK293.out 0; have hfz22_1 := blk_frozen BK293.out 1; have hfz22_2 := blk_frozen BK293.out 2) | ((with_reducible refine gate_callee (f := 36) rfl ?_); refine goesL_ (some 43) rfl rfl Tryd.func36 (by kernel_rfl) rfl #[.agg #[.int .i64 ((rd_T74 l0_1 x38_2).f0), .int .u64 ((rd_T74 l0_1 x38_2).f1), .string ((rd_T74 l0_1 x38_2).f2)]] rfl (by (try simp only [List.map_toArray, List.map_cons, List.map_nil]); first | done | rfl | (simp only [List.length_drop, List.length_take]; rfl)) ?_; (with_reducible refine (impl_ConstOk.calls ((rd_T74 l0_1 x38_2).f0) ((rd_T74 l0_1 x38_2).f1) ((rd_T74 l0_1 x38_2).f2) true _ A18.out).mono ?_); rintro e w23 ⟨rfl, hb⟩; refine ⟨_, rfl, ?_⟩; have n0_ := Aside0.mk (blk_below (g := gb288) (o := .cells #[.slice A0_0 l0_0.length c0_0, .slice (some ad292) l0_1.length c0_1] 37 (0, 0)) (by (with_reducible repeat (first | refine blk_drewN ?_ _ | refine blk_drew ?_ | refine blk_alloc ?_ _)); refine blk_far ?_ NB288_293.out _; (with_reducible repeat (first | refine blk_drewN ?_ _ | refine blk_drew ?_ | refine blk_alloc ?_ _)); refine blk_far ?_ NB288_293.out _; (with_reducible repeat (first | refine blk_drewN ?_ _ | refine blk_drew ?_ | refine blk_alloc ?_ _)); refine blk_far ?_ NB288_293.out _; (with_reducible repeat (first | refine blk_drewN ?_ _ | refine blk_drew ?_ | refine blk_alloc ?_ _)); exact BK288.out) hb); have n1_ := Aside0.mk (blk_below (g := gb293) (o := .cells #[.int .i64 ((rd_T74 l0_1 x38_2).f0), .int .u64 ((rd_T74 l0_1 x38_2).f1), .string ((rd_T74 l0_1 x38_2).f2)] 74 (0, 0)) (by (with_reducible repeat (first | refine blk_drewN ?_ _ | refine blk_drew ?_ | refine blk_alloc ?_ _)); refine blk_put (cs := #[.int .i64 ((rd_T74 l0_1 x38_2).f0), .int .u64 ((rd_T74 l0_1 x38_2).f1), .string (⟨#[]⟩ : ByteArray)]) ?_ 2 _ rfl; (with_reducible repeat (first | refine blk_drewN ?_ _ | refine blk_drew ?_ | refine blk_alloc ?_ _)); refine blk_put (cs := #[.int .i64 ((rd_T74 l0_1 x38_2).f0), .int .u64 0, .string (⟨#[]⟩ : ByteArray)]) ?_ 1 _ rfl; (with_reducible repeat (first | refine blk_drewN ?_ _ | refine blk_drew ?_ | refine blk_alloc ?_ _)); refine blk_put (cs := #[.int .i64 0, .int .u64 0, .string (⟨#[]⟩ : ByteArray)]) ?_ 0 _ rfl; (with_reducible repeat (first | refine blk_drewN ?_ _ | refine blk_drew ?_ | refine blk_alloc ?_ _)); exact BK293.out) hb); have n2_ := Aside0.mk (below_step (by repeat (first | (with_reducible first | exact HB.out | apply below_alloc | apply pw_below_drewN | apply below_drew1 | refine below_set ?_ GE288.out | refine below_set ?_ GE293.out) | exact HB.out)) hb); clear BK288; clear BK293; clear HB; have BK288 := n0_; have BK293 := n1_; have HB := n2_; clear n0_ n1_ n2_; (try clear hb); (try clear hb2); (try clear hk); (try clear hi)))
                    go_roundg k2
                    case measure => have := HJ1.out; have := HK2.out; omega
                    case rel => exact ⟨(wrap64 (x38_2 + 1)), (by first | rfl | (simp; done) | (simp [*]; done)), H', ⟨by have := HJ1.out; have := HK2.out; omega⟩, ⟨by (with_reducible repeat (first | refine blk_drewN ?_ _ | refine blk_drew ?_ | refine blk_alloc ?_ _)); exact BK288.out⟩, ⟨by repeat (first | (with_reducible first | exact HB.out | apply below_alloc | apply pw_below_drewN | apply below_drew1 | refine below_set ?_ GE288.out | refine below_set ?_ GE293.out) | exact HB.out)⟩⟩
                  · replace c19 := Bool.eq_false_iff.mpr c19
                    subst c19
                    have H1 : (some false) = some r := by rw [if_neg (show ¬ (false = true) by decide)] at H; exact H
                    clear H
                    have H := H1
                    clear H1
                    obtain rfl := Option.some.inj H
                    have p292 : 0 ≤ (x38_2 : Int) := of_decide_eq_true (by first | (with_reducible assumption) | assumption)
                    have q292 : x38_2 < (l0_1.length : Int) := of_decide_eq_true (by first | (with_reducible assumption) | assumption)
                    obtain ⟨ad292, e292, hx292_0, hx292_1, hx292_2⟩ := at_T74 HR0_1.out x38_2 p292 q292
                    cases e292
                    replace hx292_0 := (HB.out.cell (World.block_lt_of_cell? w _ hx292_0)).trans hx292_0
                    replace hx292_1 := (HB.out.cell (World.block_lt_of_cell? w _ hx292_1)).trans hx292_1
                    replace hx292_2 := (HB.out.cell (World.block_lt_of_cell? w _ hx292_2)).trans hx292_2
                    replace p292 := eq_true p292
                    replace q292 := eq_true q292
                    go_wp2_with (first | ((with_reducible refine gate_dst (N := 4) rfl ?_); (try (refine gate_guard (by rfl) ?_; dsimp only)); refine box_event ?hg (N := 4) ?hd (cs := #[.int .i64 0, .int .u64 0, .string (⟨#[]⟩ : ByteArray)]) (t := 74) ?hr ?_; (case hd => rfl); (case hg => rfl); (case hr => first | (go_simp; done) | (go_simp; rfl)); intro gb293 hg w24 hbox hb; have n0_ := Aside0.mk (blk_below (g := gb288) (o := .cells #[.slice A0_0 l0_0.length c0_0, .slice (some ad292) l0_1.length c0_1] 37 (0, 0)) (by (with_reducible repeat (first | refine blk_drewN ?_ _ | refine blk_drew ?_ | refine blk_alloc ?_ _)); exact BK288.out) hb); have n1_ := Aside0.mk (below_step (by repeat (first | (with_reducible first | exact HB.out | apply below_alloc | apply pw_below_drewN | apply below_drew1 | refine below_set ?_ GE288.out) | exact HB.out)) hb); have n2_ := Aside0.mk (hbox); have n3_ := Aside0.mk ((by rw [hg]; exact (below_size (by repeat (first | (with_reducible first | exact HB.out | apply below_alloc | apply pw_below_drewN | apply below_drew1 | refine below_set ?_ GE288.out) | exact HB.out))) : w.heap.size ≤ gb293)); have n4_ := Aside0.mk ((by rw [hg]; exact (below_size (by repeat (first | (with_reducible first | exact HB.out | apply below_alloc | apply pw_below_drewN | apply below_drew1 | refine below_set ?_ GE288.out) | exact HB.out))) : w.heap.size ≤ gb293)); have n5_ := Aside0.mk ((by rw [hg]; exact Nat.ne_of_lt (blk_lt (g := gb288) (o := .cells #[.slice A0_0 l0_0.length c0_0, .slice (some ad292) l0_1.length c0_1] 37 (0, 0)) (by (with_reducible repeat (first | refine blk_drewN ?_ _ | refine blk_drew ?_ | refine blk_alloc ?_ _)); exact BK288.out)) : gb288 ≠ gb293)); have n6_ := Aside0.mk ((by rw [hg]; exact Nat.ne_of_gt (blk_lt (g := gb288) (o := .cells #[.slice A0_0 l0_0.length c0_0, .slice (some ad292) l0_1.length c0_1] 37 (0, 0)) (by (with_reducible repeat (first | refine blk_drewN ?_ _ | refine blk_drew ?_ | refine blk_alloc ?_ _)); exact BK288.out)) : gb293 ≠ gb288)); clear BK288; clear HB; have BK288 := n0_; have HB := n1_; have BK293 := n2_; have GW293 := n3_; have GE293 := n4_; have NB288_293 := n5_; have NB293_288 := n6_; clear n0_ n1_ n2_ n3_ n4_ n5_ n6_; clear hb hbox hg; have hnb25 := NB293_288.out; have hnc25 := NB288_293.out; have hcz26_0 : w24.cell? ⟨gb293, 0, none⟩ = some (.int .i64 0) := (blk_cell BK293.out 0).trans rfl; have hcz26_1 : w24.cell? ⟨gb293, 1, none⟩ = some (.int .u64 0) := (blk_cell BK293.out 1).trans rfl; have hcz26_2 : w24.cell? ⟨gb293, 2, none⟩ = some (.string (⟨#[]⟩ : ByteArray)) := (blk_cell BK293.out 2).trans rfl; have hfz26_0 := blk_frozen BK293.out 0; have hfz26_1 := blk_frozen BK293.out 1; have hfz26_2 := blk_frozen BK293.out 2) | ((with_reducible refine gate_callee (f := 36) rfl ?_); refine goesL_ (some 43) rfl rfl Tryd.func36 (by kernel_rfl) rfl #[.agg #[.int .i64 ((rd_T74 l0_1 x38_2).f0), .int .u64 ((rd_T74 l0_1 x38_2).f1), .string ((rd_T74 l0_1 x38_2).f2)]] rfl (by (try simp only [List.map_toArray, List.map_cons, List.map_nil]); first | done | rfl | (simp only [List.length_drop, List.length_take]; rfl)) ?_; (with_reducible refine (impl_ConstOk.calls ((rd_T74 l0_1 x38_2).f0) ((rd_T74 l0_1 x38_2).f1) ((rd_T74 l0_1 x38_2).f2) false _ A18.out).mono ?_); rintro e w27 ⟨rfl, hb⟩; refine ⟨_, rfl, ?_⟩; have n0_ := Aside0.mk (blk_below (g := gb288) (o := .cells #[.slice A0_0 l0_0.length c0_0, .slice (some ad292) l0_1.length c0_1] 37 (0, 0)) (by (with_reducible repeat (first | refine blk_drewN ?_ _ | refine blk_drew ?_ | refine blk_alloc ?_ _)); refine blk_far ?_ NB288_293.out _; (with_reducible repeat (first | refine blk_drewN ?_ _ | refine blk_drew ?_ | refine blk_alloc ?_ _)); refine blk_far ?_ NB288_293.out _; (with_reducible repeat (first | refine blk_drewN ?_ _ | refine blk_drew ?_ | refine blk_alloc ?_ _)); refine blk_far ?_ NB288_293.out _; (with_reducible repeat (first | refine blk_drewN ?_ _ | refine blk_drew ?_ | refine blk_alloc ?_ _)); exact BK288.out) hb); have n1_ := Aside0.mk (blk_below (g := gb293) (o := .cells #[.int .i64 ((rd_T74 l0_1 x38_2).f0), .int .u64 ((rd_T74 l0_1 x38_2).f1), .string ((rd_T74 l0_1 x38_2).f2)] 74 (0, 0)) (by (with_reducible repeat (first | refine blk_drewN ?_ _ | refine blk_drew ?_ | refine blk_alloc ?_ _)); refine blk_put (cs := #[.int .i64 ((rd_T74 l0_1 x38_2).f0), .int .u64 ((rd_T74 l0_1 x38_2).f1), .string (⟨#[]⟩ : ByteArray)]) ?_ 2 _ rfl; (with_reducible repeat (first | refine blk_drewN ?_ _ | refine blk_drew ?_ | refine blk_alloc ?_ _)); refine blk_put (cs := #[.int .i64 ((rd_T74 l0_1 x38_2).f0), .int .u64 0, .string (⟨#[]⟩ : ByteArray)]) ?_ 1 _ rfl; (with_reducible repeat (first | refine blk_drewN ?_ _ | refine blk_drew ?_ | refine blk_alloc ?_ _)); refine blk_put (cs := #[.int .i64 0, .int .u64 0, .string (⟨#[]⟩ : ByteArray)]) ?_ 0 _ rfl; (with_reducible repeat (first | refine blk_drewN ?_ _ | refine blk_drew ?_ | refine blk_alloc ?_ _)); exact BK293.out) hb); have n2_ := Aside0.mk (below_step (by repeat (first | (with_reducible first | exact HB.out | apply below_alloc | apply pw_below_drewN | apply below_drew1 | refine below_set ?_ GE288.out | refine below_set ?_ GE293.out) | exact HB.out)) hb); clear BK288; clear BK293; clear HB; have BK288 := n0_; have BK293 := n1_; have HB := n2_; clear n0_ n1_ n2_; (try clear hb); (try clear hb2); (try clear hk); (try clear hi)))
                    go_ret
                    exact ⟨by first | rfl | (simp; done) | (simp [errW_none, errW_some] <;> rfl) | (simp [*, errW_none, errW_some] <;> rfl) | (simp [bne, List.isEmpty_iff]; done) | (rw [Bool.eq_iff_iff]; simp), by repeat (first | (with_reducible first | exact HB.out | apply below_alloc | apply pw_below_drewN | apply below_drew1 | refine below_set ?_ GE288.out | refine below_set ?_ GE293.out) | exact HB.out)⟩
                · rw [if_neg c17] at H
                  exact absurd H (by simp)
              · rw [if_neg c16] at H
                exact absurd H (by simp)
            · rw [if_neg c15] at H
              have c15b0 : decide (x38_2 < (l0_1.length : Int)) = false := decide_eq_false c15
              clear c15
              have H' := Aside0.mk H
              clear H
              have hcz28_0 : wr.cell? ⟨gb288, 0, none⟩ = some (.slice A0_0 l0_0.length c0_0) := (blk_cell BK288.out 0).trans rfl
              have hcz28_1 : wr.cell? ⟨gb288, 1, none⟩ = some (.slice A0_1 l0_1.length c0_1) := (blk_cell BK288.out 1).trans rfl
              have hfz28_0 := blk_frozen BK288.out 0
              have hfz28_1 := blk_frozen BK288.out 1
              go_wp2
              go_loopg [49] k2 (fun kq v49 w' => ∃ (x49_3 : Int), v49 = .int .i64 x49_3 ∧ Aside0 (impl_ImageOk.l1 kq l0_0 (l0_0.length : Int) x49_3 = some r) ∧ Aside0 (kq ≤ k2) ∧ Aside0 (w'.heap[gb288]? = some (.cells #[(.slice A0_0 l0_0.length c0_0), (.slice A0_1 l0_1.length c0_1)] 37 (0, 0))) ∧ Aside0 (Below w.heap.size w w'))
              case atStart => exact ⟨(0), (by first | rfl | (simp; done) | (simp [*]; done)), H', ⟨Nat.le_refl _⟩, ⟨by (with_reducible repeat (first | refine blk_drewN ?_ _ | refine blk_drew ?_ | refine blk_alloc ?_ _)); exact BK288.out⟩, ⟨by repeat (first | (with_reducible first | exact HB.out | apply below_alloc | apply pw_below_drewN | apply below_drew1 | refine below_set ?_ GE288.out) | exact HB.out)⟩⟩
              case round =>
                clear H'
                try clear c1
                try clear c2
                try clear p2
                try clear q2
                try clear hx2
                try clear qi2
                try clear c3
                try clear c5
                try clear c6
                try clear c6b0
                try clear c6b1
                try clear p6
                try clear c8
                try clear c8b0
                try clear c8b1
                try clear c9
                try clear c9b0
                try clear c9b1
                try clear c13
                try clear c15
                try clear c15b0
                try clear c16
                try clear c16b0
                try clear c17
                try clear c17b0
                try clear c19
                try clear c21
                try clear c24
                try clear c25
                try clear hcz10_0
                try clear hcz10_1
                try clear hcz11_0
                try clear hcz11_1
                try clear hcz12_0
                try clear hcz12_1
                try clear hcz14_0
                try clear hcz14_1
                try clear hcz22_0
                try clear hcz22_1
                try clear hcz22_2
                try clear hcz26_0
                try clear hcz26_1
                try clear hcz26_2
                try clear hcz28_0
                try clear hcz28_1
                try clear hcz7_0
                try clear hcz7_1
                try clear hfz10_0
                try clear hfz10_1
                try clear hfz11_0
                try clear hfz11_1
                try clear hfz12_0
                try clear hfz12_1
                try clear hfz14_0
                try clear hfz14_1
                try clear hfz22_0
                try clear hfz22_1
                try clear hfz22_2
                try clear hfz26_0
                try clear hfz26_1
                try clear hfz26_2
                try clear hfz28_0
                try clear hfz28_1
                try clear hfz7_0
                try clear hfz7_1
                try clear hx290_0
                try clear hx290_1
                try clear hx290_2
                try clear hx290_3
                try clear hx290_4
                try clear hx291_0
                try clear hx291_1
                try clear hx291_2
                try clear hx291_3
                try clear hx291_4
                try clear hx292_0
                try clear hx292_1
                try clear hx292_2
                try clear p2
                try clear p290
                try clear p291
                try clear p292
                try clear q2
                try clear q290
                try clear q291
                try clear q292
                obtain ⟨x49_3, rfl, HA, HK3, BK288, HB⟩ := hrel
                cases gk with
                | zero => exact absurd HA.out (by simp [impl_ImageOk.l1])
                | succ k3 =>
                  have H := HA.out
                  clear HA
                  simp only [impl_ImageOk.l1] at H
                  by_cases c29 : x49_3 < (l0_0.length : Int)
                  · rw [if_pos c29] at H
                    have c29b0 : decide (x49_3 < (l0_0.length : Int)) = true := decide_eq_true c29
                    clear c29
                    by_cases c30 : 0 ≤ x49_3
                    · rw [if_pos c30] at H
                      have c30b0 : decide (0 ≤ x49_3) = true := decide_eq_true c30
                      clear c30
                      by_cases c31 : x49_3 < (l0_0.length : Int)
                      · rw [if_pos c31] at H
                        have c31b0 : decide (x49_3 < (l0_0.length : Int)) = true := decide_eq_true c31
                        clear c31
                        replace H := Option.bind_eq_some_iff.mp H
                        obtain ⟨t297, A320, H⟩ := H
                        replace H : (if t297 = true then (impl_ImageOk.l1 k3 l0_0 (l0_0.length : Int) (wrap64 (x49_3 + 1))) else (some false)) = some r := H
                        have A32 := Aside0.mk A320
                        clear A320
                        by_cases c33 : t297 = true
                        · subst c33
                          have H1 : (impl_ImageOk.l1 k3 l0_0 (l0_0.length : Int) (wrap64 (x49_3 + 1))) = some r := by rw [if_pos rfl] at H; exact H
                          clear H
                          have H := H1
                          clear H1
                          have H' := Aside0.mk H
                          clear H
                          have p295 : 0 ≤ (x49_3 : Int) := of_decide_eq_true (by first | (with_reducible assumption) | assumption)
                          have q295 : x49_3 < (l0_0.length : Int) := of_decide_eq_true (by first | (with_reducible assumption) | assumption)
                          obtain ⟨ad295, A295_2, c295_2, A295_3, c295_3, A295_4, c295_4, e295, hx295_0, hx295_1, hx295_2, hx295_3, hx295_4, hl295_2, hi295_2, hl295_3, hi295_3, hl295_4, hi295_4⟩ := at_T54 HR0_0.out x49_3 p295 q295
                          cases e295
                          replace hx295_0 := (HB.out.cell (World.block_lt_of_cell? w _ hx295_0)).trans hx295_0
                          replace hx295_1 := (HB.out.cell (World.block_lt_of_cell? w _ hx295_1)).trans hx295_1
                          replace hx295_2 := (HB.out.cell (World.block_lt_of_cell? w _ hx295_2)).trans hx295_2
                          replace hx295_3 := (HB.out.cell (World.block_lt_of_cell? w _ hx295_3)).trans hx295_3
                          replace hx295_4 := (HB.out.cell (World.block_lt_of_cell? w _ hx295_4)).trans hx295_4
                          have HR295_2 := Aside0.mk hi295_2
                          have HC295_2 := Aside0.mk hl295_2
                          clear hi295_2 hl295_2
                          have HR295_3 := Aside0.mk hi295_3
                          have HC295_3 := Aside0.mk hl295_3
                          clear hi295_3 hl295_3
                          have HR295_4 := Aside0.mk hi295_4
                          have HC295_4 := Aside0.mk hl295_4
                          clear hi295_4 hl295_4
                          replace p295 := eq_true p295
                          replace q295 := eq_true q295
                          go_wp2_with (first | ((with_reducible refine gate_dst (N := 6) rfl ?_); (try (refine gate_guard (by rfl) ?_; dsimp only)); refine box_event ?hg (N := 6) ?hd (cs := #[.int .i64 0, .int .i64 0, .slice none 0 0, .slice none 0 0, .slice none 0 0]) (t := 54) ?hr ?_; (case hd => rfl); (case hg => rfl); (case hr => first | (go_simp; done) | (go_simp; rfl)); intro gb296 hg w34 hbox hb; have n0_ := Aside0.mk (blk_below (g := gb288) (o := .cells #[.slice (some ad295) l0_0.length c0_0, .slice A0_1 l0_1.length c0_1] 37 (0, 0)) (by (with_reducible repeat (first | refine blk_drewN ?_ _ | refine blk_drew ?_ | refine blk_alloc ?_ _)); exact BK288.out) hb); have n1_ := Aside0.mk (below_step (by repeat (first | (with_reducible first | exact HB.out | apply below_alloc | apply pw_below_drewN | apply below_drew1 | refine below_set ?_ GE288.out) | exact HB.out)) hb); have n2_ := Aside0.mk (hbox); have n3_ := Aside0.mk ((by rw [hg]; exact (below_size (by repeat (first | (with_reducible first | exact HB.out | apply below_alloc | apply pw_below_drewN | apply below_drew1 | refine below_set ?_ GE288.out) | exact HB.out))) : w.heap.size ≤ gb296)); have n4_ := Aside0.mk ((by rw [hg]; exact (below_size (by repeat (first | (with_reducible first | exact HB.out | apply below_alloc | apply pw_below_drewN | apply below_drew1 | refine below_set ?_ GE288.out) | exact HB.out))) : w.heap.size ≤ gb296)); have n5_ := Aside0.mk ((by rw [hg]; exact Nat.ne_of_lt (blk_lt (g := gb288) (o := .cells #[.slice (some ad295) l0_0.length c0_0, .slice A0_1 l0_1.length c0_1] 37 (0, 0)) (by (with_reducible repeat (first | refine blk_drewN ?_ _ | refine blk_drew ?_ | refine blk_alloc ?_ _)); exact BK288.out)) : gb288 ≠ gb296)); have n6_ := Aside0.mk ((by rw [hg]; exact Nat.ne_of_gt (blk_lt (g := gb288) (o := .cells #[.slice (some ad295) l0_0.length c0_0, .slice A0_1 l0_1.length c0_1] 37 (0, 0)) (by (with_reducible repeat (first | refine blk_drewN ?_ _ | refine blk_drew ?_ | refine blk_alloc ?_ _)); exact BK288.out)) : gb296 ≠ gb288)); clear BK288; clear HB; have BK288 := n0_; have HB := n1_; have BK296 := n2_; have GW296 := n3_; have GE296 := n4_; have NB288_296 := n5_; have NB296_288 := n6_; clear n0_ n1_ n2_ n3_ n4_ n5_ n6_; clear hb hbox hg; have hnb35 := NB296_288.out; have hnc35 := NB288_296.out; have hcz36_0 : w34.cell? ⟨gb296, 0, none⟩ = some (.int .i64 0) := (blk_cell BK296.out 0).trans rfl; have hcz36_1 : w34.cell? ⟨gb296, 1, none⟩ = some (.int .i64 0) := (blk_cell BK296.out 1).trans rfl; have hcz36_2 : w34.cell? ⟨gb296, 2, none⟩ = some (.slice none 0 0) := (blk_cell BK296.out 2).trans rfl; have hcz36_3 : w34.cell? ⟨gb296, 3, none⟩ = some (.slice none 0 0) := (blk_cell BK296.out 3).trans rfl; have hcz36_4 : w34.cell? ⟨gb296, 4, none⟩ = some (.slice none 0 0) := (blk_cell BK296.out 4).trans rfl; have hfz36_0 := blk_frozen BK296.out 0; have hfz36_1 := blk_frozen BK296.out 1; have hfz36_2 := blk_frozen BK296.out 2; have hfz36_3 := blk_frozen BK296.out 3; have hfz36_4 := blk_frozen BK296.out 4) | ((with_reducible refine gate_callee (f := 37) rfl ?_); refine goesL_ (some 54) rfl rfl Tryd.func37 (by kernel_rfl) rfl #[.agg #[.int .i64 ((rd_T54 l0_0 x49_3).f0), .int .i64 ((rd_T54 l0_0 x49_3).f1), .slice A295_2 ((rd_T54 l0_0 x49_3).f2).length c295_2, .slice A295_3 ((rd_T54 l0_0 x49_3).f3).length c295_3, .slice A295_4 ((rd_T54 l0_0 x49_3).f4).length c295_4]] rfl (by (try simp only [List.map_toArray, List.map_cons, List.map_nil]); first | done | rfl | (simp only [List.length_drop, List.length_take]; rfl)) ?_; (with_reducible refine (impl_funcOk.calls k3 ((rd_T54 l0_0 x49_3).f0) ((rd_T54 l0_0 x49_3).f1) _ _ ((rd_T54 l0_0 x49_3).f2) _ _ ((rd_T54 l0_0 x49_3).f3) _ _ ((rd_T54 l0_0 x49_3).f4) true _ ?side1 ?side2 ?side3 ?side4 ?side5 ?side6 A32.out).mono ?_); (case side1 => exact Kd.C_below HR295_2.out (by repeat (first | (with_reducible first | exact HB.out | apply below_alloc | apply pw_below_drewN | apply below_drew1 | refine below_set ?_ GE288.out | refine below_set ?_ GE296.out) | exact HB.out))); (case side2 => exact HC295_2.out); (case side3 => exact Kd.C_below HR295_3.out (by repeat (first | (with_reducible first | exact HB.out | apply below_alloc | apply pw_below_drewN | apply below_drew1 | refine below_set ?_ GE288.out | refine below_set ?_ GE296.out) | exact HB.out))); (case side4 => exact HC295_3.out); (case side5 => exact Kd.C_below HR295_4.out (by repeat (first | (with_reducible first | exact HB.out | apply below_alloc | apply pw_below_drewN | apply below_drew1 | refine below_set ?_ GE288.out | refine below_set ?_ GE296.out) | exact HB.out))); (case side6 => exact HC295_4.out); rintro e w37 ⟨rfl, hb⟩; refine ⟨_, rfl, ?_⟩; have n0_ := Aside0.mk (blk_below (g := gb288) (o := .cells #[.slice (some ad295) l0_0.length c0_0, .slice A0_1 l0_1.length c0_1] 37 (0, 0)) (by (with_reducible repeat (first | refine blk_drewN ?_ _ | refine blk_drew ?_ | refine blk_alloc ?_ _)); refine blk_far ?_ NB288_296.out _; (with_reducible repeat (first | refine blk_drewN ?_ _ | refine blk_drew ?_ | refine blk_alloc ?_ _)); refine blk_far ?_ NB288_296.out _; (with_reducible repeat (first | refine blk_drewN ?_ _ | refine blk_drew ?_ | refine blk_alloc ?_ _)); refine blk_far ?_ NB288_296.out _; (with_reducible repeat (first | refine blk_drewN ?_ _ | refine blk_drew ?_ | refine blk_alloc ?_ _)); refine blk_far ?_ NB288_296.out _; (with_reducible repeat (first | refine blk_drewN ?_ _ | refine blk_drew ?_ | refine blk_alloc ?_ _)); refine blk_far ?_ NB288_296.out _; (with_reducible repeat (first | refine blk_drewN ?_ _ | refine blk_drew ?_ | refine blk_alloc ?_ _)); exact BK288.out) hb); have n1_ := Aside0.mk (blk_below (g := gb296) (o := .cells #[.int .i64 ((rd_T54 l0_0 x49_3).f0), .int .i64 ((rd_T54 l0_0 x49_3).f1), .slice A295_2 ((rd_T54 l0_0 x49_3).f2).length c295_2, .slice A295_3 ((rd_T54 l0_0 x49_3).f3).length c295_3, .slice A295_4 ((rd_T54 l0_0 x49_3).f4).length c295_4] 54 (0, 0)) (by (with_reducible repeat (first | refine blk_drewN ?_ _ | refine blk_drew ?_ | refine blk_alloc ?_ _)); refine blk_put (cs := #[.int .i64 ((rd_T54 l0_0 x49_3).f0), .int .i64 ((rd_T54 l0_0 x49_3).f1), .slice A295_2 ((rd_T54 l0_0 x49_3).f2).length c295_2, .slice A295_3 ((rd_T54 l0_0 x49_3).f3).length c295_3, .slice none 0 0]) ?_ 4 _ rfl; (with_reducible repeat (first | refine blk_drewN ?_ _ | refine blk_drew ?_ | refine blk_alloc ?_ _)); refine blk_put (cs := #[.int .i64 ((rd_T54 l0_0 x49_3).f0), .int .i64 ((rd_T54 l0_0 x49_3).f1), .slice A295_2 ((rd_T54 l0_0 x49_3).f2).length c295_2, .slice none 0 0, .slice none 0 0]) ?_ 3 _ rfl; (with_reducible repeat (first | refine blk_drewN ?_ _ | refine blk_drew ?_ | refine blk_alloc ?_ _)); refine blk_put (cs := #[.int .i64 ((rd_T54 l0_0 x49_3).f0), .int .i64 ((rd_T54 l0_0 x49_3).f1), .slice none 0 0, .slice none 0 0, .slice none 0 0]) ?_ 2 _ rfl; (with_reducible repeat (first | refine blk_drewN ?_ _ | refine blk_drew ?_ | refine blk_alloc ?_ _)); refine blk_put (cs := #[.int .i64 ((rd_T54 l0_0 x49_3).f0), .int .i64 0, .slice none 0 0, .slice none 0 0, .slice none 0 0]) ?_ 1 _ rfl; (with_reducible repeat (first | refine blk_drewN ?_ _ | refine blk_drew ?_ | refine blk_alloc ?_ _)); refine blk_put (cs := #[.int .i64 0, .int .i64 0, .slice none 0 0, .slice none 0 0, .slice none 0 0]) ?_ 0 _ rfl; (with_reducible repeat (first | refine blk_drewN ?_ _ | refine blk_drew ?_ | refine blk_alloc ?_ _)); exact BK296.out) hb); have n2_ := Aside0.mk (below_step (by repeat (first | (with_reducible first | exact HB.out | apply below_alloc | apply pw_below_drewN | apply below_drew1 | refine below_set ?_ GE288.out | refine below_set ?_ GE296.out) | exact HB.out)) hb); clear BK288; clear BK296; clear HB; have BK288 := n0_; have BK296 := n1_; have HB := n2_; clear n0_ n1_ n2_; (try clear hb); (try clear hb2); (try clear hk); (try clear hi)))
                          go_roundg k3
                          case measure => have := HJ1.out; have := HK2.out; have := HK3.out; omega
                          case rel => exact ⟨(wrap64 (x49_3 + 1)), (by first | rfl | (simp; done) | (simp [*]; done)), H', ⟨by have := HJ1.out; have := HK2.out; have := HK3.out; omega⟩, ⟨by (with_reducible repeat (first | refine blk_drewN ?_ _ | refine blk_drew ?_ | refine blk_alloc ?_ _)); exact BK288.out⟩, ⟨by repeat (first | (with_reducible first | exact HB.out | apply below_alloc | apply pw_below_drewN | apply below_drew1 | refine below_set ?_ GE288.out | refine below_set ?_ GE296.out) | exact HB.out)⟩⟩
                        · replace c33 := Bool.eq_false_iff.mpr c33
                          subst c33
                          have H1 : (some false) = some r := by rw [if_neg (show ¬ (false = true) by decide)] at H; exact H
                          clear H
                          have H := H1
                          clear H1
                          obtain rfl := Option.some.inj H
                          have p295 : 0 ≤ (x49_3 : Int) := of_decide_eq_true (by first | (with_reducible assumption) | assumption)
                          have q295 : x49_3 < (l0_0.length : Int) := of_decide_eq_true (by first | (with_reducible assumption) | assumption)
                          obtain ⟨ad295, A295_2, c295_2, A295_3, c295_3, A295_4, c295_4, e295, hx295_0, hx295_1, hx295_2, hx295_3, hx295_4, hl295_2, hi295_2, hl295_3, hi295_3, hl295_4, hi295_4⟩ := at_T54 HR0_0.out x49_3 p295 q295
                          cases e295
                          replace hx295_0 := (HB.out.cell (World.block_lt_of_cell? w _ hx295_0)).trans hx295_0
                          replace hx295_1 := (HB.out.cell (World.block_lt_of_cell? w _ hx295_1)).trans hx295_1
                          replace hx295_2 := (HB.out.cell (World.block_lt_of_cell? w _ hx295_2)).trans hx295_2
                          replace hx295_3 := (HB.out.cell (World.block_lt_of_cell? w _ hx295_3)).trans hx295_3
                          replace hx295_4 := (HB.out.cell (World.block_lt_of_cell? w _ hx295_4)).trans hx295_4
                          have HR295_2 := Aside0.mk hi295_2
                          have HC295_2 := Aside0.mk hl295_2
                          clear hi295_2 hl295_2
                          have HR295_3 := Aside0.mk hi295_3
                          have HC295_3 := Aside0.mk hl295_3
                          clear hi295_3 hl295_3
                          have HR295_4 := Aside0.mk hi295_4
                          have HC295_4 := Aside0.mk hl295_4
                          clear hi295_4 hl295_4
                          replace p295 := eq_true p295
                          replace q295 := eq_true q295
                          go_wp2_with (first | ((with_reducible refine gate_dst (N := 6) rfl ?_); (try (refine gate_guard (by rfl) ?_; dsimp only)); refine box_event ?hg (N := 6) ?hd (cs := #[.int .i64 0, .int .i64 0, .slice none 0 0, .slice none 0 0, .slice none 0 0]) (t := 54) ?hr ?_; (case hd => rfl); (case hg => rfl); (case hr => first | (go_simp; done) | (go_simp; rfl)); intro gb296 hg w38 hbox hb; have n0_ := Aside0.mk (blk_below (g := gb288) (o := .cells #[.slice (some ad295) l0_0.length c0_0, .slice A0_1 l0_1.length c0_1] 37 (0, 0)) (by (with_reducible repeat (first | refine blk_drewN ?_ _ | refine blk_drew ?_ | refine blk_alloc ?_ _)); exact BK288.out) hb); have n1_ := Aside0.mk (below_step (by repeat (first | (with_reducible first | exact HB.out | apply below_alloc | apply pw_below_drewN | apply below_drew1 | refine below_set ?_ GE288.out) | exact HB.out)) hb); have n2_ := Aside0.mk (hbox); have n3_ := Aside0.mk ((by rw [hg]; exact (below_size (by repeat (first | (with_reducible first | exact HB.out | apply below_alloc | apply pw_below_drewN | apply below_drew1 | refine below_set ?_ GE288.out) | exact HB.out))) : w.heap.size ≤ gb296)); have n4_ := Aside0.mk ((by rw [hg]; exact (below_size (by repeat (first | (with_reducible first | exact HB.out | apply below_alloc | apply pw_below_drewN | apply below_drew1 | refine below_set ?_ GE288.out) | exact HB.out))) : w.heap.size ≤ gb296)); have n5_ := Aside0.mk ((by rw [hg]; exact Nat.ne_of_lt (blk_lt (g := gb288) (o := .cells #[.slice (some ad295) l0_0.length c0_0, .slice A0_1 l0_1.length c0_1] 37 (0, 0)) (by (with_reducible repeat (first | refine blk_drewN ?_ _ | refine blk_drew ?_ | refine blk_alloc ?_ _)); exact BK288.out)) : gb288 ≠ gb296)); have n6_ := Aside0.mk ((by rw [hg]; exact Nat.ne_of_gt (blk_lt (g := gb288) (o := .cells #[.slice (some ad295) l0_0.length c0_0, .slice A0_1 l0_1.length c0_1] 37 (0, 0)) (by (with_reducible repeat (first | refine blk_drewN ?_ _ | refine blk_drew ?_ | refine blk_alloc ?_ _)); exact BK288.out)) : gb296 ≠ gb288)); clear BK288; clear HB; have BK288 := n0_; have HB := n1_; have BK296 := n2_; have GW296 := n3_; have GE296 := n4_; have NB288_296 := n5_; have NB296_288 := n6_; clear n0_ n1_ n2_ n3_ n4_ n5_ n6_; clear hb hbox hg; have hnb39 := NB296_288.out; have hnc39 := NB288_296.out; have hcz40_0 : w38.cell? ⟨gb296, 0, none⟩ = some (.int .i64 0) := (blk_cell BK296.out 0).trans rfl; have hcz40_1 : w38.cell? ⟨gb296, 1, none⟩ = some (.int .i64 0) := (blk_cell BK296.out 1).trans rfl; have hcz40_2 : w38.cell? ⟨gb296, 2, none⟩ = some (.slice none 0 0) := (blk_cell BK296.out 2).trans rfl; have hcz40_3 : w38.cell? ⟨gb296, 3, none⟩ = some (.slice none 0 0) := (blk_cell BK296.out 3).trans rfl; have hcz40_4 : w38.cell? ⟨gb296, 4, none⟩ = some (.slice none 0 0) := (blk_cell BK296.out 4).trans rfl; have hfz40_0 := blk_frozen BK296.out 0; have hfz40_1 := blk_frozen BK296.out 1; have hfz40_2 := blk_frozen BK296.out 2; have hfz40_3 := blk_frozen BK296.out 3; have hfz40_4 := blk_frozen BK296.out 4) | ((with_reducible refine gate_callee (f := 37) rfl ?_); refine goesL_ (some 54) rfl rfl Tryd.func37 (by kernel_rfl) rfl #[.agg #[.int .i64 ((rd_T54 l0_0 x49_3).f0), .int .i64 ((rd_T54 l0_0 x49_3).f1), .slice A295_2 ((rd_T54 l0_0 x49_3).f2).length c295_2, .slice A295_3 ((rd_T54 l0_0 x49_3).f3).length c295_3, .slice A295_4 ((rd_T54 l0_0 x49_3).f4).length c295_4]] rfl (by (try simp only [List.map_toArray, List.map_cons, List.map_nil]); first | done | rfl | (simp only [List.length_drop, List.length_take]; rfl)) ?_; (with_reducible refine (impl_funcOk.calls k3 ((rd_T54 l0_0 x49_3).f0) ((rd_T54 l0_0 x49_3).f1) _ _ ((rd_T54 l0_0 x49_3).f2) _ _ ((rd_T54 l0_0 x49_3).f3) _ _ ((rd_T54 l0_0 x49_3).f4) false _ ?side1 ?side2 ?side3 ?side4 ?side5 ?side6 A32.out).mono ?_); (case side1 => exact Kd.C_below HR295_2.out (by repeat (first | (with_reducible first | exact HB.out | apply below_alloc | apply pw_below_drewN | apply below_drew1 | refine below_set ?_ GE288.out | refine below_set ?_ GE296.out) | exact HB.out))); (case side2 => exact HC295_2.out); (case side3 => exact Kd.C_below HR295_3.out (by repeat (first | (with_reducible first | exact HB.out | apply below_alloc | apply pw_below_drewN | apply below_drew1 | refine below_set ?_ GE288.out | refine below_set ?_ GE296.out) | exact HB.out))); (case side4 => exact HC295_3.out); (case side5 => exact Kd.C_below HR295_4.out (by repeat (first | (with_reducible first | exact HB.out | apply below_alloc | apply pw_below_drewN | apply below_drew1 | refine below_set ?_ GE288.out | refine below_set ?_ GE296.out) | exact HB.out))); (case side6 => exact HC295_4.out); rintro e w41 ⟨rfl, hb⟩; refine ⟨_, rfl, ?_⟩; have n0_ := Aside0.mk (blk_below (g := gb288) (o := .cells #[.slice (some ad295) l0_0.length c0_0, .slice A0_1 l0_1.length c0_1] 37 (0, 0)) (by (with_reducible repeat (first | refine blk_drewN ?_ _ | refine blk_drew ?_ | refine blk_alloc ?_ _)); refine blk_far ?_ NB288_296.out _; (with_reducible repeat (first | refine blk_drewN ?_ _ | refine blk_drew ?_ | refine blk_alloc ?_ _)); refine blk_far ?_ NB288_296.out _; (with_reducible repeat (first | refine blk_drewN ?_ _ | refine blk_drew ?_ | refine blk_alloc ?_ _)); refine blk_far ?_ NB288_296.out _; (with_reducible repeat (first | refine blk_drewN ?_ _ | refine blk_drew ?_ | refine blk_alloc ?_ _)); refine blk_far ?_ NB288_296.out _; (with_reducible repeat (first | refine blk_drewN ?_ _ | refine blk_drew ?_ | refine blk_alloc ?_ _)); refine blk_far ?_ NB288_296.out _; (with_reducible repeat (first | refine blk_drewN ?_ _ | refine blk_drew ?_ | refine blk_alloc ?_ _)); exact BK288.out) hb); have n1_ := Aside0.mk (blk_below (g := gb296) (o := .cells #[.int .i64 ((rd_T54 l0_0 x49_3).f0), .int .i64 ((rd_T54 l0_0 x49_3).f1), .slice A295_2 ((rd_T54 l0_0 x49_3).f2).length c295_2, .slice A295_3 ((rd_T54 l0_0 x49_3).f3).length c295_3, .slice A295_4 ((rd_T54 l0_0 x49_3).f4).length c295_4] 54 (0, 0)) (by (with_reducible repeat (first | refine blk_drewN ?_ _ | refine blk_drew ?_ | refine blk_alloc ?_ _)); refine blk_put (cs := #[.int .i64 ((rd_T54 l0_0 x49_3).f0), .int .i64 ((rd_T54 l0_0 x49_3).f1), .slice A295_2 ((rd_T54 l0_0 x49_3).f2).length c295_2, .slice A295_3 ((rd_T54 l0_0 x49_3).f3).length c295_3, .slice none 0 0]) ?_ 4 _ rfl; (with_reducible repeat (first | refine blk_drewN ?_ _ | refine blk_drew ?_ | refine blk_alloc ?_ _)); refine blk_put (cs := #[.int .i64 ((rd_T54 l0_0 x49_3).f0), .int .i64 ((rd_T54 l0_0 x49_3).f1), .slice A295_2 ((rd_T54 l0_0 x49_3).f2).length c295_2, .slice none 0 0, .slice none 0 0]) ?_ 3 _ rfl; (with_reducible repeat (first | refine blk_drewN ?_ _ | refine blk_drew ?_ | refine blk_alloc ?_ _)); refine blk_put (cs := #[.int .i64 ((rd_T54 l0_0 x49_3).f0), .int .i64 ((rd_T54 l0_0 x49_3).f1), .slice none 0 0, .slice none 0 0, .slice none 0 0]) ?_ 2 _ rfl; (with_reducible repeat (first | refine blk_drewN ?_ _ | refine blk_drew ?_ | refine blk_alloc ?_ _)); refine blk_put (cs := #[.int .i64 ((rd_T54 l0_0 x49_3).f0), .int .i64 0, .slice none 0 0, .slice none 0 0, .slice none 0 0]) ?_ 1 _ rfl; (with_reducible repeat (first | refine blk_drewN ?_ _ | refine blk_drew ?_ | refine blk_alloc ?_ _)); refine blk_put (cs := #[.int .i64 0, .int .i64 0, .slice none 0 0, .slice none 0 0, .slice none 0 0]) ?_ 0 _ rfl; (with_reducible repeat (first | refine blk_drewN ?_ _ | refine blk_drew ?_ | refine blk_alloc ?_ _)); exact BK296.out) hb); have n2_ := Aside0.mk (below_step (by repeat (first | (with_reducible first | exact HB.out | apply below_alloc | apply pw_below_drewN | apply below_drew1 | refine below_set ?_ GE288.out | refine below_set ?_ GE296.out) | exact HB.out)) hb); clear BK288; clear BK296; clear HB; have BK288 := n0_; have BK296 := n1_; have HB := n2_; clear n0_ n1_ n2_; (try clear hb); (try clear hb2); (try clear hk); (try clear hi)))
                          go_ret
                          exact ⟨by first | rfl | (simp; done) | (simp [errW_none, errW_some] <;> rfl) | (simp [*, errW_none, errW_some] <;> rfl) | (simp [bne, List.isEmpty_iff]; done) | (rw [Bool.eq_iff_iff]; simp), by repeat (first | (with_reducible first | exact HB.out | apply below_alloc | apply pw_below_drewN | apply below_drew1 | refine below_set ?_ GE288.out | refine below_set ?_ GE296.out) | exact HB.out)⟩
                      · rw [if_neg c31] at H
                        exact absurd H (by simp)
                    · rw [if_neg c30] at H
                      exact absurd H (by simp)
                  · rw [if_neg c29] at H
                    have c29b0 : decide (x49_3 < (l0_0.length : Int)) = false := decide_eq_false c29
                    clear c29
                    obtain rfl := Option.some.inj H
                    go_wp2
                    go_ret
                    exact ⟨by first | rfl | (simp; done) | (simp [errW_none, errW_some] <;> rfl) | (simp [*, errW_none, errW_some] <;> rfl) | (simp [bne, List.isEmpty_iff]; done) | (rw [Bool.eq_iff_iff]; simp), by repeat (first | (with_reducible first | exact HB.out | apply below_alloc | apply pw_below_drewN | apply below_drew1 | refine below_set ?_ GE288.out) | exact HB.out)⟩
-- NOT PRINTED: function 11 (impl_ShowFunc)
end Go.Proofs.YtkgdjhhokbbheaaDoor.QFnExactShowFunc
end
section
namespace Go.Proofs.YtkgdjhhokbbheaaDoor.Img
open Go.RowKit Go.Proofs.YtkgdjhhokbbheaaDoorW.PrintWords Go.Proofs.YtkgdjhhokbbheaaDoorW.PrintMore Go.Proofs.YtkgdjhhokbbheaaDoor.QFnExactShowFunc Go.Proofs.YtkgdjhhokbbheaaDoor.Num
set_option linter.unusedVariables false
set_option linter.unusedSimpArgs false
set_option autoImplicit false
theorem up {α : Type} {f : Nat → Option α} (hm : ∀ k, LeO (f k) (f (k + 1))) {k0 : Nat} {r : α} (h : f k0 = some r) {k : Nat} (hk : k0 ≤ k) : f k = some r := by
  obtain ⟨d, rfl⟩ : ∃ d, k = k0 + d := ⟨k - k0, by omega⟩
  clear hk
  induction d with
  | zero => exact h
  | succ d ih => exact hm (k0 + d) r ih
def inB (x lo hi : Int) : Bool := decide (lo ≤ x ∧ x ≤ hi)
theorem spec_in (x lo hi : Int) : spec_l01In.f x lo hi = some (inB x lo hi) := by
  unfold spec_l01In.f inB
  by_cases h : x ≥ lo
  · rw [if_pos h]
    by_cases h2 : x ≤ hi
    · rw [decide_eq_true h2, decide_eq_true ⟨h, h2⟩]
    · rw [decide_eq_false h2, decide_eq_false (fun e => h2 e.2)]
  · rw [if_neg h, decide_eq_false (fun e => h e.1)]
theorem impl_in (x lo hi : Int) : impl_within.f x lo hi = some (inB x lo hi) := spec_in x lo hi
theorem pow63 : spec_l03Pow.f 100 63 = some 9223372036854775808 := by decide +kernel
theorem spec_parts {x : Int} (h0 : 0 ≤ x) (h1 : x < 18446744073709551616) : spec_PartsOfNumber.f 100 x = some (PN x) := by
  unfold spec_PartsOfNumber.f
  have hq := Int.emod_lt_of_pos x (show (0 : Int) < 4503599627370496 by omega)
  have hq0 := Int.emod_nonneg x (show (4503599627370496 : Int) ≠ 0 by omega)
  have e1 : wrap64 (Int.tmod (IntKind.u64.wrap (Int.tdiv x 4503599627370496)) 2048) = x / 4503599627370496 % 2048 := by
    rw [tdiv_pos h0, u64_id (by omega) (by omega), tmod_pos (by omega), wrap64_id (by omega) (by omega)]
  have e2 : Int.tmod x 4503599627370496 = x % 4503599627370496 := tmod_pos h0
  have e3 : IntKind.u64.wrap (Int.tdiv x 9223372036854775808) = x / 9223372036854775808 := by rw [tdiv_pos h0, u64_id (by omega) (by omega)]
  rw [pow63]
  simp only [Option.bind_some, e1, e2, e3]
  rw [if_neg (by omega)]
  unfold PN
  by_cases h2 : x / 4503599627370496 % 2048 = 2047
  · rw [if_pos h2, if_pos h2]
    by_cases h3 : x % 4503599627370496 = 0
    · simp only [spec_PartsOfNumber.j0, h3, bne_self_eq_false, Bool.false_eq_true, if_false, h2, if_true]
    · simp only [spec_PartsOfNumber.j0, (bne_iff_ne.mpr h3), if_true, if_neg h3]
  · rw [if_neg h2, if_neg h2]
    by_cases h4 : x / 4503599627370496 % 2048 = 0
    · by_cases h3 : x % 4503599627370496 = 0
      · simp [spec_PartsOfNumber.j0, spec_PartsOfNumber.j1, h4, h3]
      · simp [spec_PartsOfNumber.j0, spec_PartsOfNumber.j1, h4, h3]
    · rw [if_neg h4]
      simp only [spec_PartsOfNumber.j0, spec_PartsOfNumber.j1, Bool.false_eq_true, if_false, if_neg h2, if_neg h4]
      rw [u64_id (by omega) (by omega), wrap64_id (by omega) (by omega)]
theorem spec_nan {x : Int} (h0 : 0 ≤ x) (h1 : x < 18446744073709551616) : spec_l03Nan.f 100 x = some (isNan x) := by
  unfold spec_l03Nan.f
  rw [spec_parts h0 h1]
  simp only [Option.bind_some]
  rw [PN_nan h0]
theorem impl_nan {x : Int} (h0 : 0 ≤ x) (h1 : x < 18446744073709551616) : impl_isNaN.f x = some (isNan x) := by
  unfold impl_isNaN.f isNan
  rw [and_63 h0 h1]
theorem drop_rd {α : Type} (z : α) (l : List α) {j : Nat} (h : j < l.length) : l.drop j = l.getD j z :: l.drop (j + 1) := by
  rw [List.getD_eq_getElem?_getD, List.getElem?_eq_getElem h]
  exact List.drop_eq_getElem_cons h
/-- Of a constant. -/
def constB (x : S74) : Bool :=
  if x.f0 = 1 then (x.f2.toList == ([] : List UInt8)) && (!isNan x.f1 || x.f1 == 9221120237041090560)
  else if x.f0 = 2 then x.f1 == 0 && decide ((x.f2.size : Int) ≤ 40)
  else if x.f0 = 3 ∨ x.f0 = 4 ∨ x.f0 = 5 then x.f1 == 0 && (x.f2.toList == ([] : List UInt8)) else false
theorem beq_nil (l : List UInt8) : (l == ([] : List UInt8)) = decide (l = []) := by cases l <;> rfl
theorem spec_const (x : S74) (h0 : 0 ≤ x.f1) (h1 : x.f1 < 18446744073709551616) {k : Nat} (hk : 100 ≤ k) : spec_ConstOk.f k x.f0 x.f1 x.f2 = some (constB x) := by
  have hn : spec_l03Nan.f k x.f1 = some (isNan x.f1) := up (f := fun k => spec_l03Nan.f k x.f1) (fun k => spec_l03Nan.mono x.f1 k) (spec_nan h0 h1) hk
  unfold spec_ConstOk.f constB
  rw [hn]
  by_cases k1 : x.f0 = 1
  · rw [if_pos k1, if_pos k1, Option.bind_some, beq_nil]
    by_cases ht : x.f2.toList = []
    · rw [if_pos ht, decide_eq_true ht]
      cases isNan x.f1 <;> simp
    · rw [if_neg ht, decide_eq_false ht]; rfl
  · by_cases k2 : x.f0 = 2
    · by_cases hz : x.f1 = 0 <;> simp [k2, hz]
    · by_cases hz : x.f1 = 0 <;> by_cases k3 : x.f0 = 3 <;> by_cases k4 : x.f0 = 4 <;> by_cases k5 : x.f0 = 5 <;> simp [k1, k2, k3, k4, k5, hz]
theorem impl_const (x : S74) (h0 : 0 ≤ x.f1) (h1 : x.f1 < 18446744073709551616) : impl_ConstOk.f x.f0 x.f1 x.f2 = some (constB x) := by
  unfold impl_ConstOk.f constB
  rw [impl_nan h0 h1]
  by_cases k1 : x.f0 = 1
  · rw [if_pos k1, if_pos k1, Option.bind_some, beq_nil]
    cases isNan x.f1
    · simp
    · by_cases hz : x.f1 = 9221120237041090560 <;> simp [hz]
  · by_cases k2 : x.f0 = 2
    · by_cases hl : (x.f2.size : Int) ≤ 40
      · rw [if_neg k1, if_pos k2, if_pos hl, if_neg k1, if_pos k2, decide_eq_true hl, Bool.and_true]
      · rw [if_neg k1, if_pos k2, if_neg hl, if_neg k1, if_pos k2, decide_eq_false hl, Bool.and_false]
    · by_cases hz : x.f1 = 0 <;> by_cases k3 : x.f0 = 3 <;> by_cases k4 : x.f0 = 4 <;> by_cases k5 : x.f0 = 5 <;> simp [k1, k2, k3, k4, k5, hz]
def capB (x : S91) : Bool := inB x.f1 0 40
def insB (x : S25) : Bool := inB x.f0 1 19 && (inB x.f1 0 300 && inB x.f2 0 300)
def hdB (x : S93) : Bool := inB x.f0 0 300 && (inB x.f1 0 300 && inB x.f2 0 300)
theorem rdC (l : List S91) (j : Nat) : rd_T91 l (j : Int) = l.getD j z91 := by simp [rd_T91]
theorem rdI (l : List S25) (j : Nat) : rd_T25 l (j : Int) = l.getD j z25 := by simp [rd_T25]
theorem rdH (l : List S93) (j : Nat) : rd_T93 l (j : Int) = l.getD j z93 := by simp [rd_T93]
theorem rdF (l : List S54) (j : Nat) : rd_T54 l (j : Int) = l.getD j z54 := by simp [rd_T54]
theorem rdK (l : List S74) (j : Nat) : rd_T74 l (j : Int) = l.getD j z74 := by simp [rd_T74]
theorem rdF0 (l : List S54) : rd_T54 l 0 = l.getD 0 z54 := by simp [rd_T54]
theorem w1 {j : Nat} (h : j ≤ 1000000) : wrap64 ((j : Int) + 1) = ((j + 1 : Nat) : Int) := by unfold wrap64; omega
section
variable (p r : Int) (cs : List S91) (co : List S25) (hs : List S93)
theorem s_l2 (hl : hs.length ≤ 1000) : ∀ (d k j : Nat), j + d = hs.length → d < k → spec_l13Func.l2 k j p r cs co hs = some ((hs.drop j).all hdB)
  | d, 0, j, _, h => absurd h (by omega)
  | 0, k + 1, j, hd, _ => by
    rw [spec_l13Func.l2, if_neg (by omega), List.drop_eq_nil_of_le (by omega)]
    rfl
  | d + 1, k + 1, j, hd, hk => by
    have hj : j < hs.length := by omega
    have ih := s_l2 hl d k (j + 1) (by omega) (by omega)
    rw [spec_l13Func.l2, if_pos (by omega), if_pos (by omega), rdH, spec_in, Option.bind_some, spec_in, Option.bind_some, spec_in, Option.bind_some, w1 (by omega), ih, drop_rd z93 hs hj, List.all_cons]
    generalize hs.getD j z93 = x
    unfold hdB
    cases inB x.f0 0 300 <;> cases inB x.f1 0 300 <;> cases inB x.f2 0 300 <;> simp
theorem s_l1 (hl : hs.length ≤ 1000) (hc : co.length ≤ 1000) : ∀ (d k j : Nat), j + d = co.length → d + hs.length + 1 < k → spec_l13Func.l1 k j p r cs co hs = some ((co.drop j).all insB && hs.all hdB)
  | d, 0, j, _, h => absurd h (by omega)
  | 0, k + 1, j, hd, hk => by
    rw [spec_l13Func.l1, if_neg (by omega), List.drop_eq_nil_of_le (by omega), show (0 : Int) = ((0 : Nat) : Int) from rfl, s_l2 p r cs co hs hl hs.length k 0 (by omega) (by omega)]
    rfl
  | d + 1, k + 1, j, hd, hk => by
    have hj : j < co.length := by omega
    have ih := s_l1 hl hc d k (j + 1) (by omega) (by omega)
    rw [spec_l13Func.l1, if_pos (by omega), if_pos (by omega), rdI, spec_in, Option.bind_some, spec_in, Option.bind_some, spec_in, Option.bind_some, w1 (by omega), ih, drop_rd z25 co hj, List.all_cons]
    generalize co.getD j z25 = x
    unfold insB
    cases inB x.f0 1 19 <;> cases inB x.f1 0 300 <;> cases inB x.f2 0 300 <;> simp
theorem s_l0 (hl : hs.length ≤ 1000) (hc : co.length ≤ 1000) (ha : cs.length ≤ 1000) : ∀ (d k j : Nat), j + d = cs.length → d + co.length + hs.length + 2 < k → spec_l13Func.l0 k j p r cs co hs = some ((cs.drop j).all capB && (co.all insB && hs.all hdB))
  | d, 0, j, _, h => absurd h (by omega)
  | 0, k + 1, j, hd, hk => by
    rw [spec_l13Func.l0, if_neg (by omega), List.drop_eq_nil_of_le (by omega), show (0 : Int) = ((0 : Nat) : Int) from rfl, s_l1 p r cs co hs hl hc co.length k 0 (by omega) (by omega)]
    rfl
  | d + 1, k + 1, j, hd, hk => by
    have hj : j < cs.length := by omega
    have ih := s_l0 hl hc ha d k (j + 1) (by omega) (by omega)
    rw [spec_l13Func.l0, if_pos (by omega), if_pos (by omega), rdC, spec_in, Option.bind_some, w1 (by omega), ih, drop_rd z91 cs hj, List.all_cons]
    generalize cs.getD j z91 = x
    unfold capB
    cases inB x.f1 0 40 <;> simp
/-- Of a Func. -/
def funcB : Bool := inB p 0 4 && (inB r p 40 && (decide (cs.length ≤ 20) && (inB co.length 1 300 && (decide (hs.length ≤ 40) && (cs.all capB && (co.all insB && hs.all hdB))))))
theorem spec_func {k : Nat} (hk : 500 ≤ k) : spec_l13Func.f k p r cs co hs = some (funcB p r cs co hs) := by
  obtain ⟨k, rfl⟩ : ∃ q, k = q + 1 := ⟨k - 1, by omega⟩
  unfold spec_l13Func.f funcB
  rw [spec_in, Option.bind_some, spec_in, Option.bind_some, spec_in, Option.bind_some]
  have jt : spec_l13Func.j0 (k + 1) true p r cs co hs = some false := by rw [spec_l13Func.j0, if_pos rfl]
  rw [jt]
  cases inB p 0 4
  · simp
  cases inB r p 40
  · simp
  by_cases hc : (cs.length : Int) > 20
  · simp [hc, show ¬ cs.length ≤ 20 by omega]
  by_cases hco : inB co.length 1 300 = true
  rotate_left
  · simp [hc, hco]
  have hcl : co.length ≤ 300 := by have := of_decide_eq_true hco; omega
  by_cases hh : (hs.length : Int) > 40
  · simp [hc, hco, hh, jt, show ¬ hs.length ≤ 40 by omega]
  have e := s_l0 p r cs co hs (by omega) (by omega) (by omega) cs.length k 0 (by omega) (by omega)
  have jf : spec_l13Func.j0 (k + 1) false p r cs co hs = some (cs.all capB && (co.all insB && hs.all hdB)) := by rw [spec_l13Func.j0, if_neg (by decide)]; exact e
  simp [hc, hco, hh, jf, show cs.length ≤ 20 by omega, show hs.length ≤ 40 by omega]
theorem i_l2 (hl : hs.length ≤ 1000) : ∀ (d k j : Nat), j + d = hs.length → d < k → impl_funcOk.l2 k hs hs.length j = some ((hs.drop j).all hdB)
  | d, 0, j, _, h => absurd h (by omega)
  | 0, k + 1, j, hd, _ => by
    rw [impl_funcOk.l2, if_neg (by omega), List.drop_eq_nil_of_le (by omega)]
    rfl
  | d + 1, k + 1, j, hd, hk => by
    have hj : j < hs.length := by omega
    have ih := i_l2 hl d k (j + 1) (by omega) (by omega)
    rw [impl_funcOk.l2, if_pos (by omega), if_pos (by omega), if_pos (by omega), rdH, impl_in, Option.bind_some, impl_in, Option.bind_some, impl_in, Option.bind_some, w1 (by omega), ih, drop_rd z93 hs hj, List.all_cons]
    generalize hs.getD j z93 = x
    unfold hdB
    cases inB x.f0 0 300 <;> cases inB x.f1 0 300 <;> cases inB x.f2 0 300 <;> simp
theorem i_l1 (hl : hs.length ≤ 1000) (hc : co.length ≤ 1000) : ∀ (d k j : Nat), j + d = co.length → d + hs.length + 1 < k → impl_funcOk.l1 k co co.length j p r cs co hs = some ((co.drop j).all insB && hs.all hdB)
  | d, 0, j, _, h => absurd h (by omega)
  | 0, k + 1, j, hd, hk => by
    rw [impl_funcOk.l1, if_neg (by omega), List.drop_eq_nil_of_le (by omega), show (0 : Int) = ((0 : Nat) : Int) from rfl, i_l2 hs hl hs.length k 0 (by omega) (by omega)]
    rfl
  | d + 1, k + 1, j, hd, hk => by
    have hj : j < co.length := by omega
    have ih := i_l1 hl hc d k (j + 1) (by omega) (by omega)
    rw [impl_funcOk.l1, if_pos (by omega), if_pos (by omega), if_pos (by omega), rdI, impl_in, Option.bind_some, impl_in, Option.bind_some, impl_in, Option.bind_some, w1 (by omega), ih, drop_rd z25 co hj, List.all_cons]
    generalize co.getD j z25 = x
    unfold insB
    cases inB x.f0 1 19 <;> cases inB x.f1 0 300 <;> cases inB x.f2 0 300 <;> simp
theorem i_l0 (hl : hs.length ≤ 1000) (hc : co.length ≤ 1000) (ha : cs.length ≤ 1000) : ∀ (d k j : Nat), j + d = cs.length → d + co.length + hs.length + 2 < k → impl_funcOk.l0 k cs cs.length j p r cs co hs = some ((cs.drop j).all capB && (co.all insB && hs.all hdB))
  | d, 0, j, _, h => absurd h (by omega)
  | 0, k + 1, j, hd, hk => by
    rw [impl_funcOk.l0, if_neg (by omega), List.drop_eq_nil_of_le (by omega), show (0 : Int) = ((0 : Nat) : Int) from rfl, i_l1 p r cs co hs hl hc co.length k 0 (by omega) (by omega)]
    rfl
  | d + 1, k + 1, j, hd, hk => by
    have hj : j < cs.length := by omega
    have ih := i_l0 hl hc ha d k (j + 1) (by omega) (by omega)
    rw [impl_funcOk.l0, if_pos (by omega), if_pos (by omega), if_pos (by omega), rdC, impl_in, Option.bind_some, w1 (by omega), ih, drop_rd z91 cs hj, List.all_cons]
    generalize cs.getD j z91 = x
    unfold capB
    cases inB x.f1 0 40 <;> simp
theorem impl_func {k : Nat} (hk : 500 ≤ k) : impl_funcOk.f k p r cs co hs = some (funcB p r cs co hs) := by
  obtain ⟨k, rfl⟩ : ∃ q, k = q + 1 := ⟨k - 1, by omega⟩
  unfold impl_funcOk.f funcB
  rw [impl_in, Option.bind_some, impl_in, Option.bind_some, impl_in, Option.bind_some]
  have jt : impl_funcOk.j0 (k + 1) true p r cs co hs = some false := by rw [impl_funcOk.j0, if_pos rfl]
  rw [jt]
  cases inB p 0 4
  · simp
  cases inB r p 40
  · simp
  by_cases hc : (cs.length : Int) > 20
  · simp [hc, show ¬ cs.length ≤ 20 by omega]
  by_cases hco : inB co.length 1 300 = true
  rotate_left
  · simp [hc, hco]
  have hcl : co.length ≤ 300 := by have := of_decide_eq_true hco; omega
  by_cases hh : (hs.length : Int) > 40
  · simp [hc, hco, hh, jt, show ¬ hs.length ≤ 40 by omega]
  have e := i_l0 p r cs co hs (by omega) (by omega) (by omega) cs.length k 0 (by omega) (by omega)
  have jf : impl_funcOk.j0 (k + 1) false p r cs co hs = some (cs.all capB && (co.all insB && hs.all hdB)) := by rw [impl_funcOk.j0, if_neg (by decide)]; exact e
  simp [hc, hco, hh, jf, show cs.length ≤ 20 by omega, show hs.length ≤ 40 by omega]
end
def fB (x : S54) : Bool := funcB x.f0 x.f1 x.f2 x.f3 x.f4
/-- Of an image. -/
def imageB (fs : List S54) (cs : List S74) : Bool :=
  inB fs.length 1 16 && (decide (cs.length ≤ 40) && (cs.all constB && (fs.all fB && (decide ((fs.getD 0 z54).f0 = 0) && decide ((fs.getD 0 z54).f2.length = 0)))))
section
variable (fs : List S54) (cs : List S74) (hn : ∀ x ∈ cs, 0 ≤ x.f1 ∧ x.f1 < 18446744073709551616)
include hn
def lastB (fs : List S54) : Bool := decide ((fs.getD 0 z54).f0 = 0) && decide ((fs.getD 0 z54).f2.length = 0)
omit hn in
theorem S_l1 (h0 : 0 < fs.length) (hf : fs.length ≤ 1000) : ∀ (d k j : Nat), j + d = fs.length → d + 500 < k → spec_ImageOk.l1 k j fs cs = some ((fs.drop j).all fB && lastB fs)
  | d, 0, j, _, h => absurd h (by omega)
  | 0, k + 1, j, hd, hk => by
    rw [spec_ImageOk.l1, if_neg (by omega), List.drop_eq_nil_of_le (by omega), if_pos (by omega), rdF0]
    unfold lastB
    generalize fs.getD 0 z54 = y
    by_cases h1 : y.f0 = 0
    · rw [if_pos h1, decide_eq_true h1]
      by_cases h2 : y.f2.length = 0
      · rw [decide_eq_true h2]
        have h3 : y.f2 = [] := List.length_eq_zero_iff.mp h2
        simp [h3]
      · rw [decide_eq_false h2]
        have h3 : y.f2 ≠ [] := fun e => h2 (by rw [e]; rfl)
        simp [h3]
    · rw [if_neg h1, decide_eq_false h1]; rfl
  | d + 1, k + 1, j, hd, hk => by
    have hj : j < fs.length := by omega
    have ih := S_l1 h0 hf d k (j + 1) (by omega) (by omega)
    rw [spec_ImageOk.l1, if_pos (by omega), if_pos (by omega), rdF, spec_func _ _ _ _ _ (by omega), Option.bind_some, w1 (by omega), ih, drop_rd z54 fs hj, List.all_cons]
    show (if fB (fs.getD j z54) = true then _ else _) = _
    cases fB (fs.getD j z54) <;> simp
theorem S_l0 (h0 : 0 < fs.length) (hf : fs.length ≤ 1000) (hc : cs.length ≤ 1000) : ∀ (d k j : Nat), j + d = cs.length → d + fs.length + 501 < k → spec_ImageOk.l0 k j fs cs = some ((cs.drop j).all constB && (fs.all fB && lastB fs))
  | d, 0, j, _, h => absurd h (by omega)
  | 0, k + 1, j, hd, hk => by
    rw [spec_ImageOk.l0, if_neg (by omega), List.drop_eq_nil_of_le (by omega), show (0 : Int) = ((0 : Nat) : Int) from rfl, S_l1 fs cs h0 hf fs.length k 0 (by omega) (by omega)]
    rfl
  | d + 1, k + 1, j, hd, hk => by
    have hj : j < cs.length := by omega
    have ih := S_l0 h0 hf hc d k (j + 1) (by omega) (by omega)
    have hx := hn (cs.getD j z74) (by rw [List.getD_eq_getElem?_getD, List.getElem?_eq_getElem hj]; exact List.getElem_mem hj)
    rw [spec_ImageOk.l0, if_pos (by omega), if_pos (by omega), rdK, spec_const _ hx.1 hx.2 (by omega), Option.bind_some, w1 (by omega), ih, drop_rd z74 cs hj, List.all_cons]
    cases constB (cs.getD j z74) <;> simp
theorem spec_image {k : Nat} (hk : 700 ≤ k) : spec_ImageOk.f k fs cs = some (imageB fs cs) := by
  obtain ⟨k, rfl⟩ : ∃ q, k = q + 1 := ⟨k - 1, by omega⟩
  unfold spec_ImageOk.f imageB
  rw [spec_in, Option.bind_some]
  have jt : spec_ImageOk.j0 (k + 1) true fs cs = some false := by rw [spec_ImageOk.j0, if_pos rfl]
  by_cases h1 : inB fs.length 1 16 = true
  rotate_left
  · simp [h1, jt]
  have hf := of_decide_eq_true h1
  by_cases hc : (cs.length : Int) > 40
  · simp [h1, hc, jt, show ¬ cs.length ≤ 40 by omega]
  have e := S_l0 fs cs hn (by omega) (by omega) (by omega) cs.length k 0 (by omega) (by omega)
  have jf : spec_ImageOk.j0 (k + 1) false fs cs = some (cs.all constB && (fs.all fB && lastB fs)) := by rw [spec_ImageOk.j0, if_neg (by decide)]; exact e
  unfold lastB at jf
  simp [h1, hc, jf, show cs.length ≤ 40 by omega]
omit hn in
theorem I_l1 (hf : fs.length ≤ 1000) : ∀ (d k j : Nat), j + d = fs.length → d + 500 < k → impl_ImageOk.l1 k fs fs.length j = some ((fs.drop j).all fB)
  | d, 0, j, _, h => absurd h (by omega)
  | 0, k + 1, j, hd, hk => by
    rw [impl_ImageOk.l1, if_neg (by omega), List.drop_eq_nil_of_le (by omega)]
    rfl
  | d + 1, k + 1, j, hd, hk => by
    have hj : j < fs.length := by omega
    have ih := I_l1 hf d k (j + 1) (by omega) (by omega)
    rw [impl_ImageOk.l1, if_pos (by omega), if_pos (by omega), if_pos (by omega), rdF, impl_func _ _ _ _ _ (by omega), Option.bind_some, w1 (by omega), ih, drop_rd z54 fs hj, List.all_cons]
    show (if fB (fs.getD j z54) = true then _ else _) = _
    cases fB (fs.getD j z54) <;> simp
theorem I_l0 (hf : fs.length ≤ 1000) (hc : cs.length ≤ 1000) : ∀ (d k j : Nat), j + d = cs.length → d + fs.length + 501 < k → impl_ImageOk.l0 k cs cs.length j fs cs = some ((cs.drop j).all constB && fs.all fB)
  | d, 0, j, _, h => absurd h (by omega)
  | 0, k + 1, j, hd, hk => by
    rw [impl_ImageOk.l0, if_neg (by omega), List.drop_eq_nil_of_le (by omega), show (0 : Int) = ((0 : Nat) : Int) from rfl, I_l1 fs hf fs.length k 0 (by omega) (by omega)]
    rfl
  | d + 1, k + 1, j, hd, hk => by
    have hj : j < cs.length := by omega
    have ih := I_l0 hf hc d k (j + 1) (by omega) (by omega)
    have hx := hn (cs.getD j z74) (by rw [List.getD_eq_getElem?_getD, List.getElem?_eq_getElem hj]; exact List.getElem_mem hj)
    rw [impl_ImageOk.l0, if_pos (by omega), if_pos (by omega), if_pos (by omega), rdK, impl_const _ hx.1 hx.2, Option.bind_some, w1 (by omega), ih, drop_rd z74 cs hj, List.all_cons]
    cases constB (cs.getD j z74) <;> simp
theorem impl_image {k : Nat} (hk : 700 ≤ k) : impl_ImageOk.f k fs cs = some (imageB fs cs) := by
  obtain ⟨k, rfl⟩ : ∃ q, k = q + 1 := ⟨k - 1, by omega⟩
  unfold impl_ImageOk.f imageB
  rw [impl_in, Option.bind_some, rdF0]
  have jt : impl_ImageOk.j0 (k + 1) true fs cs = some false := by rw [impl_ImageOk.j0, if_pos rfl]
  by_cases h1 : inB fs.length 1 16 = true
  rotate_left
  · simp [h1, jt]
  have hf := of_decide_eq_true h1
  by_cases hc : (cs.length : Int) > 40
  · simp [h1, hc, jt, show ¬ cs.length ≤ 40 by omega]
  have e := I_l0 fs cs hn (by omega) (by omega) cs.length k 0 (by omega) (by omega)
  have jf : impl_ImageOk.j0 (k + 1) false fs cs = some (cs.all constB && fs.all fB) := by rw [impl_ImageOk.j0, if_neg (by decide)]; exact e
  rw [if_pos h1, if_neg hc, if_pos (by omega), h1, decide_eq_true (show cs.length ≤ 40 by omega)]
  generalize fs.getD 0 z54 = y
  by_cases h2 : y.f0 = 0
  · rw [if_pos h2, decide_eq_true h2]
    by_cases h3 : y.f2.length = 0
    · rw [decide_eq_false (by omega), jf, decide_eq_true h3]; simp
    · rw [decide_eq_true (by omega), jt, decide_eq_false h3]; simp
  · rw [if_neg h2, jt, decide_eq_false h2]; simp
end
end Go.Proofs.YtkgdjhhokbbheaaDoor.Img
end
section
namespace Go.Proofs.YtkgdjhhokbbheaaDoor
open Go.RowKit Go.Proofs.YtkgdjhhokbbheaaDoorW.PrintWords Go.Proofs.YtkgdjhhokbbheaaDoorW.PrintMore
set_option linter.unusedVariables false
theorem kd_at {α : Type} {d : Kd α} {w : World} {A : Option Addr} {l : List α} (z : α) (h : d.C w A l.length l) (j : Nat) (hj : j < l.length) : ∃ a c, A = some a ∧ d.K w (l.getD j z) c ∧ ∀ i u, c[i]? = some u → w.cell? (a.add (j * d.sz + i)) = some u := by
  obtain ⟨a, c, e, _, hK, hc⟩ := Kd.C_get h z (j : Int) (by omega) (by omega)
  exact ⟨a, c, e, by simpa using hK, by simpa using hc⟩
/-- The element at a place, a given one beyond. -/
def el {α : Type} (z : α) (l : List α) (j : Nat) : α := l.getD j z
theorem el_lt {α : Type} (z : α) {l : List α} {j : Nat} (h : j < l.length) : el z l j = l[j] := by simp [el, h]
theorem el_mem {α : Type} (z : α) {l : List α} {j : Nat} (h : j < l.length) : el z l j ∈ l := by rw [el_lt z h]; exact List.getElem_mem h
theorem el_ext {α : Type} (z : α) {l m : List α} (hl : l.length = m.length) (h : ∀ i : Nat, i < l.length → el z l i = el z m i) : l = m := by
  apply List.ext_getElem hl
  intro i h1 h2
  have := h i h1
  rwa [el_lt z h1, el_lt z h2] at this
theorem string_at {w : World} {A : Option Addr} {l : List ByteArray} (h : Kd.string.C w A l.length l) (j : Nat) (hj : j < l.length) : ∃ a, A = some a ∧ w.cell? (a.add j) = some (.string (el ByteArray.empty l j)) := by
  obtain ⟨a, c, e, hK, hc⟩ := kd_at ByteArray.empty h j hj
  have hc' : c = [.string (el ByteArray.empty l j)] := hK
  subst hc'
  exact ⟨a, e, by simpa [Kd.string, Kd.scalar] using hc 0 _ rfl⟩
end Go.Proofs.YtkgdjhhokbbheaaDoor
end
section
namespace Go.Proofs.YtkgdjhhokbbheaaDoor
open Go.RowKit Go.Proofs.YtkgdjhhokbbheaaDoorW.PrintWords Go.Proofs.YtkgdjhhokbbheaaDoorW.PrintMore
set_option linter.unusedVariables false
structure Ins where
  op : Int
  a : Int
  b : Int
  deriving DecidableEq
def zIns : Ins := ⟨0, 0, 0⟩
def kIns : Kd Ins := Kd.iso (Kd.pair (Kd.int .i64) (Kd.pair (Kd.int .i64) (Kd.int .i64))) (fun x : Ins => (x.op, x.a, x.b))
theorem kIns_open {w : World} {x : Ins} {cs : List Value} (h : kIns.K w x cs) : cs = [.int .i64 x.op, .int .i64 x.a, .int .i64 x.b] := by
  obtain ⟨_, _, rfl, rfl, ⟨_, _, rfl, rfl, rfl⟩⟩ := h
  exact rfl
theorem kIns_openM {w : World} {base : Nat} {ok : Nat → Prop} {x : Ins} {cs : List Value} (h : kIns.M w base ok x cs) : cs = [.int .i64 x.op, .int .i64 x.a, .int .i64 x.b] := by
  obtain ⟨_, _, rfl, rfl, ⟨_, _, rfl, rfl, rfl⟩⟩ := h
  exact rfl
theorem kIns_mkM (w : World) (base : Nat) (ok : Nat → Prop) (x : Ins) : kIns.M w base ok x [.int .i64 x.op, .int .i64 x.a, .int .i64 x.b] := ⟨_, _, rfl, rfl, ⟨_, _, rfl, rfl, rfl⟩⟩
theorem Ins_at {w : World} {A : Option Addr} {l : List Ins} (h : kIns.C w A l.length l) (j : Nat) (hj : j < l.length) : ∃ a, A = some a ∧ kIns.K w (el zIns l j) [.int .i64 (el zIns l j).op, .int .i64 (el zIns l j).a, .int .i64 (el zIns l j).b] ∧ w.cell? (a.add (j * 3)) = some (.int .i64 (el zIns l j).op) ∧ w.cell? ⟨(a.add (j * 3)).block, (a.add (j * 3)).off + 1, none⟩ = some (.int .i64 (el zIns l j).a) ∧ w.cell? ⟨(a.add (j * 3)).block, (a.add (j * 3)).off + 2, none⟩ = some (.int .i64 (el zIns l j).b) := by
  obtain ⟨a, c, e, hK, hc0⟩ := kd_at zIns h j hj
  have hc : ∀ i u, c[i]? = some u → w.cell? (a.add (j * 3 + i)) = some u := hc0
  have e2 := kIns_open hK
  subst e2
  exact ⟨a, e, hK, hc 0 _ rfl, by rw [← add_field _ _ 1 (by omega)]; exact hc 1 _ rfl, by rw [← add_field _ _ 2 (by omega)]; exact hc 2 _ rfl⟩
structure Cap where
  reg : Bool
  index : Int
  deriving DecidableEq
def zCap : Cap := ⟨false, 0⟩
def kCap : Kd Cap := Kd.iso (Kd.pair Kd.bool (Kd.int .i64)) (fun x : Cap => (x.reg, x.index))
theorem kCap_open {w : World} {x : Cap} {cs : List Value} (h : kCap.K w x cs) : cs = [.bool x.reg, .int .i64 x.index] := by
  obtain ⟨_, _, rfl, rfl, rfl⟩ := h
  exact rfl
theorem kCap_openM {w : World} {base : Nat} {ok : Nat → Prop} {x : Cap} {cs : List Value} (h : kCap.M w base ok x cs) : cs = [.bool x.reg, .int .i64 x.index] := by
  obtain ⟨_, _, rfl, rfl, rfl⟩ := h
  exact rfl
theorem kCap_mkM (w : World) (base : Nat) (ok : Nat → Prop) (x : Cap) : kCap.M w base ok x [.bool x.reg, .int .i64 x.index] := ⟨_, _, rfl, rfl, rfl⟩
theorem Cap_at {w : World} {A : Option Addr} {l : List Cap} (h : kCap.C w A l.length l) (j : Nat) (hj : j < l.length) : ∃ a, A = some a ∧ kCap.K w (el zCap l j) [.bool (el zCap l j).reg, .int .i64 (el zCap l j).index] ∧ w.cell? (a.add (j * 2)) = some (.bool (el zCap l j).reg) ∧ w.cell? ⟨(a.add (j * 2)).block, (a.add (j * 2)).off + 1, none⟩ = some (.int .i64 (el zCap l j).index) := by
  obtain ⟨a, c, e, hK, hc0⟩ := kd_at zCap h j hj
  have hc : ∀ i u, c[i]? = some u → w.cell? (a.add (j * 2 + i)) = some u := hc0
  have e2 := kCap_open hK
  subst e2
  exact ⟨a, e, hK, hc 0 _ rfl, by rw [← add_field _ _ 1 (by omega)]; exact hc 1 _ rfl⟩
structure Handler where
  from_ : Int
  to_ : Int
  target : Int
  deriving DecidableEq
def zHandler : Handler := ⟨0, 0, 0⟩
def kHandler : Kd Handler := Kd.iso (Kd.pair (Kd.int .i64) (Kd.pair (Kd.int .i64) (Kd.int .i64))) (fun x : Handler => (x.from_, x.to_, x.target))
theorem kHandler_open {w : World} {x : Handler} {cs : List Value} (h : kHandler.K w x cs) : cs = [.int .i64 x.from_, .int .i64 x.to_, .int .i64 x.target] := by
  obtain ⟨_, _, rfl, rfl, ⟨_, _, rfl, rfl, rfl⟩⟩ := h
  exact rfl
theorem kHandler_openM {w : World} {base : Nat} {ok : Nat → Prop} {x : Handler} {cs : List Value} (h : kHandler.M w base ok x cs) : cs = [.int .i64 x.from_, .int .i64 x.to_, .int .i64 x.target] := by
  obtain ⟨_, _, rfl, rfl, ⟨_, _, rfl, rfl, rfl⟩⟩ := h
  exact rfl
theorem kHandler_mkM (w : World) (base : Nat) (ok : Nat → Prop) (x : Handler) : kHandler.M w base ok x [.int .i64 x.from_, .int .i64 x.to_, .int .i64 x.target] := ⟨_, _, rfl, rfl, ⟨_, _, rfl, rfl, rfl⟩⟩
theorem Handler_at {w : World} {A : Option Addr} {l : List Handler} (h : kHandler.C w A l.length l) (j : Nat) (hj : j < l.length) : ∃ a, A = some a ∧ kHandler.K w (el zHandler l j) [.int .i64 (el zHandler l j).from_, .int .i64 (el zHandler l j).to_, .int .i64 (el zHandler l j).target] ∧ w.cell? (a.add (j * 3)) = some (.int .i64 (el zHandler l j).from_) ∧ w.cell? ⟨(a.add (j * 3)).block, (a.add (j * 3)).off + 1, none⟩ = some (.int .i64 (el zHandler l j).to_) ∧ w.cell? ⟨(a.add (j * 3)).block, (a.add (j * 3)).off + 2, none⟩ = some (.int .i64 (el zHandler l j).target) := by
  obtain ⟨a, c, e, hK, hc0⟩ := kd_at zHandler h j hj
  have hc : ∀ i u, c[i]? = some u → w.cell? (a.add (j * 3 + i)) = some u := hc0
  have e2 := kHandler_open hK
  subst e2
  exact ⟨a, e, hK, hc 0 _ rfl, by rw [← add_field _ _ 1 (by omega)]; exact hc 1 _ rfl, by rw [← add_field _ _ 2 (by omega)]; exact hc 2 _ rfl⟩
structure Const where
  kind : Int
  num : Int
  text : ByteArray
  deriving DecidableEq
def zConst : Const := ⟨0, 0, (⟨#[]⟩ : ByteArray)⟩
def kConst : Kd Const := Kd.iso (Kd.pair (Kd.int .i64) (Kd.pair (Kd.int .u64) Kd.string)) (fun x : Const => (x.kind, x.num, x.text))
theorem kConst_open {w : World} {x : Const} {cs : List Value} (h : kConst.K w x cs) : cs = [.int .i64 x.kind, .int .u64 x.num, .string x.text] := by
  obtain ⟨_, _, rfl, rfl, ⟨_, _, rfl, rfl, rfl⟩⟩ := h
  exact rfl
theorem kConst_openM {w : World} {base : Nat} {ok : Nat → Prop} {x : Const} {cs : List Value} (h : kConst.M w base ok x cs) : cs = [.int .i64 x.kind, .int .u64 x.num, .string x.text] := by
  obtain ⟨_, _, rfl, rfl, ⟨_, _, rfl, rfl, rfl⟩⟩ := h
  exact rfl
theorem kConst_mkM (w : World) (base : Nat) (ok : Nat → Prop) (x : Const) : kConst.M w base ok x [.int .i64 x.kind, .int .u64 x.num, .string x.text] := ⟨_, _, rfl, rfl, ⟨_, _, rfl, rfl, rfl⟩⟩
theorem Const_at {w : World} {A : Option Addr} {l : List Const} (h : kConst.C w A l.length l) (j : Nat) (hj : j < l.length) : ∃ a, A = some a ∧ kConst.K w (el zConst l j) [.int .i64 (el zConst l j).kind, .int .u64 (el zConst l j).num, .string (el zConst l j).text] ∧ w.cell? (a.add (j * 3)) = some (.int .i64 (el zConst l j).kind) ∧ w.cell? ⟨(a.add (j * 3)).block, (a.add (j * 3)).off + 1, none⟩ = some (.int .u64 (el zConst l j).num) ∧ w.cell? ⟨(a.add (j * 3)).block, (a.add (j * 3)).off + 2, none⟩ = some (.string (el zConst l j).text) := by
  obtain ⟨a, c, e, hK, hc0⟩ := kd_at zConst h j hj
  have hc : ∀ i u, c[i]? = some u → w.cell? (a.add (j * 3 + i)) = some u := hc0
  have e2 := kConst_open hK
  subst e2
  exact ⟨a, e, hK, hc 0 _ rfl, by rw [← add_field _ _ 1 (by omega)]; exact hc 1 _ rfl, by rw [← add_field _ _ 2 (by omega)]; exact hc 2 _ rfl⟩
structure Func where
  params : Int
  regs : Int
  caps : List Cap
  code : List Ins
  handlers : List Handler
  deriving DecidableEq
def zFunc : Func := ⟨0, 0, [], [], []⟩
def kFuncL : Kd Func := Kd.iso (Kd.pair (Kd.int .i64) (Kd.pair (Kd.int .i64) (Kd.pair (Kd.slice 115 kCap) (Kd.pair (Kd.slice 23 kIns) (Kd.slice 117 kHandler))))) (fun x : Func => (x.params, x.regs, x.caps, x.code, x.handlers))
theorem kFuncL_open {w : World} {x : Func} {cs : List Value} (h : kFuncL.K w x cs) : ∃ A2 c2 A3 c3 A4 c4, cs = [.int .i64 x.params, .int .i64 x.regs, .slice A2 x.caps.length c2, .slice A3 x.code.length c3, .slice A4 x.handlers.length c4] ∧ x.caps.length ≤ c2 ∧ kCap.C w A2 x.caps.length x.caps ∧ x.code.length ≤ c3 ∧ kIns.C w A3 x.code.length x.code ∧ x.handlers.length ≤ c4 ∧ kHandler.C w A4 x.handlers.length x.handlers := by
  obtain ⟨_, _, rfl, rfl, ⟨_, _, rfl, rfl, ⟨_, _, rfl, ⟨A2, c2, rfl, l2, g2⟩, ⟨_, _, rfl, ⟨A3, c3, rfl, l3, g3⟩, ⟨A4, c4, rfl, l4, g4⟩⟩⟩⟩⟩ := h
  exact ⟨A2, c2, A3, c3, A4, c4, rfl, l2, g2, l3, g3, l4, g4⟩
theorem FuncL_at {w : World} {A : Option Addr} {l : List Func} (h : kFuncL.C w A l.length l) (j : Nat) (hj : j < l.length) : ∃ a A2 c2 A3 c3 A4 c4, A = some a ∧ kFuncL.K w (el zFunc l j) [.int .i64 (el zFunc l j).params, .int .i64 (el zFunc l j).regs, .slice A2 (el zFunc l j).caps.length c2, .slice A3 (el zFunc l j).code.length c3, .slice A4 (el zFunc l j).handlers.length c4] ∧ w.cell? (a.add (j * 5)) = some (.int .i64 (el zFunc l j).params) ∧ w.cell? ⟨(a.add (j * 5)).block, (a.add (j * 5)).off + 1, none⟩ = some (.int .i64 (el zFunc l j).regs) ∧ w.cell? ⟨(a.add (j * 5)).block, (a.add (j * 5)).off + 2, none⟩ = some (.slice A2 (el zFunc l j).caps.length c2) ∧ w.cell? ⟨(a.add (j * 5)).block, (a.add (j * 5)).off + 3, none⟩ = some (.slice A3 (el zFunc l j).code.length c3) ∧ w.cell? ⟨(a.add (j * 5)).block, (a.add (j * 5)).off + 4, none⟩ = some (.slice A4 (el zFunc l j).handlers.length c4) := by
  obtain ⟨a, c, e, hK, hc0⟩ := kd_at zFunc h j hj
  have hc : ∀ i u, c[i]? = some u → w.cell? (a.add (j * 5 + i)) = some u := hc0
  obtain ⟨A2, c2, A3, c3, A4, c4, rfl, l2, g2, l3, g3, l4, g4⟩ := kFuncL_open hK
  exact ⟨a, A2, c2, A3, c3, A4, c4, e, hK, hc 0 _ rfl, by rw [← add_field _ _ 1 (by omega)]; exact hc 1 _ rfl, by rw [← add_field _ _ 2 (by omega)]; exact hc 2 _ rfl, by rw [← add_field _ _ 3 (by omega)]; exact hc 3 _ rfl, by rw [← add_field _ _ 4 (by omega)]; exact hc 4 _ rfl⟩
def kFuncI : Kd Func := Kd.iso (Kd.pair (Kd.int .i64) (Kd.pair (Kd.int .i64) (Kd.pair (Kd.slice 91 kCap) (Kd.pair (Kd.slice 25 kIns) (Kd.slice 93 kHandler))))) (fun x : Func => (x.params, x.regs, x.caps, x.code, x.handlers))
theorem kFuncI_open {w : World} {x : Func} {cs : List Value} (h : kFuncI.K w x cs) : ∃ A2 c2 A3 c3 A4 c4, cs = [.int .i64 x.params, .int .i64 x.regs, .slice A2 x.caps.length c2, .slice A3 x.code.length c3, .slice A4 x.handlers.length c4] ∧ x.caps.length ≤ c2 ∧ kCap.C w A2 x.caps.length x.caps ∧ x.code.length ≤ c3 ∧ kIns.C w A3 x.code.length x.code ∧ x.handlers.length ≤ c4 ∧ kHandler.C w A4 x.handlers.length x.handlers := by
  obtain ⟨_, _, rfl, rfl, ⟨_, _, rfl, rfl, ⟨_, _, rfl, ⟨A2, c2, rfl, l2, g2⟩, ⟨_, _, rfl, ⟨A3, c3, rfl, l3, g3⟩, ⟨A4, c4, rfl, l4, g4⟩⟩⟩⟩⟩ := h
  exact ⟨A2, c2, A3, c3, A4, c4, rfl, l2, g2, l3, g3, l4, g4⟩
theorem kFuncI_openM {w : World} {base : Nat} {ok : Nat → Prop} {x : Func} {cs : List Value} (h : kFuncI.M w base ok x cs) : ∃ v2 v3 v4, cs = [.int .i64 x.params, .int .i64 x.regs, v2, v3, v4] ∧ kCap.R 91 w base ok v2 x.caps ∧ kIns.R 25 w base ok v3 x.code ∧ kHandler.R 93 w base ok v4 x.handlers := by
  obtain ⟨_, _, rfl, rfl, ⟨_, _, rfl, rfl, ⟨_, _, rfl, ⟨v2, rfl, g2⟩, ⟨_, _, rfl, ⟨v3, rfl, g3⟩, ⟨v4, rfl, g4⟩⟩⟩⟩⟩ := h
  exact ⟨v2, v3, v4, rfl, g2, g3, g4⟩
theorem kFuncI_mkM (w : World) (base : Nat) (ok : Nat → Prop) (x : Func) {v2 : Value} (g2 : kCap.R 91 w base ok v2 x.caps) {v3 : Value} (g3 : kIns.R 25 w base ok v3 x.code) {v4 : Value} (g4 : kHandler.R 93 w base ok v4 x.handlers) : kFuncI.M w base ok x [.int .i64 x.params, .int .i64 x.regs, v2, v3, v4] := ⟨_, _, rfl, rfl, ⟨_, _, rfl, rfl, ⟨_, _, rfl, ⟨_, rfl, g2⟩, ⟨_, _, rfl, ⟨_, rfl, g3⟩, ⟨_, rfl, g4⟩⟩⟩⟩⟩
theorem FuncI_at {w : World} {A : Option Addr} {l : List Func} (h : kFuncI.C w A l.length l) (j : Nat) (hj : j < l.length) : ∃ a A2 c2 A3 c3 A4 c4, A = some a ∧ kFuncI.K w (el zFunc l j) [.int .i64 (el zFunc l j).params, .int .i64 (el zFunc l j).regs, .slice A2 (el zFunc l j).caps.length c2, .slice A3 (el zFunc l j).code.length c3, .slice A4 (el zFunc l j).handlers.length c4] ∧ w.cell? (a.add (j * 5)) = some (.int .i64 (el zFunc l j).params) ∧ w.cell? ⟨(a.add (j * 5)).block, (a.add (j * 5)).off + 1, none⟩ = some (.int .i64 (el zFunc l j).regs) ∧ w.cell? ⟨(a.add (j * 5)).block, (a.add (j * 5)).off + 2, none⟩ = some (.slice A2 (el zFunc l j).caps.length c2) ∧ w.cell? ⟨(a.add (j * 5)).block, (a.add (j * 5)).off + 3, none⟩ = some (.slice A3 (el zFunc l j).code.length c3) ∧ w.cell? ⟨(a.add (j * 5)).block, (a.add (j * 5)).off + 4, none⟩ = some (.slice A4 (el zFunc l j).handlers.length c4) := by
  obtain ⟨a, c, e, hK, hc0⟩ := kd_at zFunc h j hj
  have hc : ∀ i u, c[i]? = some u → w.cell? (a.add (j * 5 + i)) = some u := hc0
  obtain ⟨A2, c2, A3, c3, A4, c4, rfl, l2, g2, l3, g3, l4, g4⟩ := kFuncI_open hK
  exact ⟨a, A2, c2, A3, c3, A4, c4, e, hK, hc 0 _ rfl, by rw [← add_field _ _ 1 (by omega)]; exact hc 1 _ rfl, by rw [← add_field _ _ 2 (by omega)]; exact hc 2 _ rfl, by rw [← add_field _ _ 3 (by omega)]; exact hc 3 _ rfl, by rw [← add_field _ _ 4 (by omega)]; exact hc 4 _ rfl⟩
structure Image where
  funcs : List Func
  consts : List Const
  deriving DecidableEq
def kImageL : Kd Image := Kd.iso (Kd.pair (Kd.slice 68 kFuncL) (Kd.slice 72 kConst)) (fun x : Image => (x.funcs, x.consts))
theorem kImageL_open {w : World} {x : Image} {cs : List Value} (h : kImageL.K w x cs) : ∃ A0 c0 A1 c1, cs = [.slice A0 x.funcs.length c0, .slice A1 x.consts.length c1] ∧ x.funcs.length ≤ c0 ∧ kFuncL.C w A0 x.funcs.length x.funcs ∧ x.consts.length ≤ c1 ∧ kConst.C w A1 x.consts.length x.consts := by
  obtain ⟨_, _, rfl, ⟨A0, c0, rfl, l0, g0⟩, ⟨A1, c1, rfl, l1, g1⟩⟩ := h
  exact ⟨A0, c0, A1, c1, rfl, l0, g0, l1, g1⟩
theorem kImageL_mk (w : World) (x : Image) {A0 : Option Addr} {c0 : Nat} (l0 : x.funcs.length ≤ c0) (g0 : kFuncL.C w A0 x.funcs.length x.funcs) {A1 : Option Addr} {c1 : Nat} (l1 : x.consts.length ≤ c1) (g1 : kConst.C w A1 x.consts.length x.consts) : kImageL.K w x [.slice A0 x.funcs.length c0, .slice A1 x.consts.length c1] := ⟨_, _, rfl, ⟨_, _, rfl, l0, g0⟩, ⟨_, _, rfl, l1, g1⟩⟩
def kImageI : Kd Image := Kd.iso (Kd.pair (Kd.slice 54 kFuncI) (Kd.slice 74 kConst)) (fun x : Image => (x.funcs, x.consts))
theorem kImageI_open {w : World} {x : Image} {cs : List Value} (h : kImageI.K w x cs) : ∃ A0 c0 A1 c1, cs = [.slice A0 x.funcs.length c0, .slice A1 x.consts.length c1] ∧ x.funcs.length ≤ c0 ∧ kFuncI.C w A0 x.funcs.length x.funcs ∧ x.consts.length ≤ c1 ∧ kConst.C w A1 x.consts.length x.consts := by
  obtain ⟨_, _, rfl, ⟨A0, c0, rfl, l0, g0⟩, ⟨A1, c1, rfl, l1, g1⟩⟩ := h
  exact ⟨A0, c0, A1, c1, rfl, l0, g0, l1, g1⟩
theorem kImageI_openM {w : World} {base : Nat} {ok : Nat → Prop} {x : Image} {cs : List Value} (h : kImageI.M w base ok x cs) : ∃ v0 v1, cs = [v0, v1] ∧ kFuncI.R 54 w base ok v0 x.funcs ∧ kConst.R 74 w base ok v1 x.consts := by
  obtain ⟨_, _, rfl, ⟨v0, rfl, g0⟩, ⟨v1, rfl, g1⟩⟩ := h
  exact ⟨v0, v1, rfl, g0, g1⟩
theorem kImageI_mkM (w : World) (base : Nat) (ok : Nat → Prop) (x : Image) {v0 : Value} (g0 : kFuncI.R 54 w base ok v0 x.funcs) {v1 : Value} (g1 : kConst.R 74 w base ok v1 x.consts) : kImageI.M w base ok x [v0, v1] := ⟨_, _, rfl, ⟨_, rfl, g0⟩, ⟨_, rfl, g1⟩⟩
end Go.Proofs.YtkgdjhhokbbheaaDoor
end
section
namespace Go.Proofs.YtkgdjhhokbbheaaDoor.Law
open Go.RowKit Go.Proofs.YtkgdjhhokbbheaaDoorW.PrintWords Go.Proofs.YtkgdjhhokbbheaaDoorW.PrintMore
set_option linter.unusedVariables false
theorem bytes_ext {a b : ByteArray} (h : a.toList = b.toList) : a = b := by
  have e : ∀ x : ByteArray, x.toList = x.data.toList := fun x => ByteArray.toList_eq x
  rw [e, e] at h
  cases a
  cases b
  congr
  exact Array.ext' h
/-- A kind's reading, behind a draw. -/
theorem Kd.K_drew0 {α : Type} {d : Kd α} {w : World} {x : α} {cs : List Value} (h : d.K w x cs) : d.K w.drew x cs := d.K_below (below_drew1 (Below.refl _ _)) h
/-- From w on only new memory was written; the boxes of the list hold what it says. -/
structure At (w W : World) (L : List (Nat × Array Value × TypeId)) : Prop where
  below : Below w.heap.size w W
  box : ∀ b ∈ L, W.heap[b.1]? = some (.cells b.2.1 b.2.2 (0, 0))
theorem At.step {w W W2 : World} {L : List (Nat × Array Value × TypeId)} (h : At w W L) (hb : Below W.heap.size W W2) : At w W2 L := ⟨below_step h.below hb, fun b hm => blk_below (h.box b hm) hb⟩
theorem At.draw {w W : World} {L : List (Nat × Array Value × TypeId)} (h : At w W L) (n : Nat) : At w (W.drewN n) L := ⟨pw_below_drewN h.below n, fun b hm => h.box b hm⟩
theorem At.drew {w W : World} {L : List (Nat × Array Value × TypeId)} (h : At w W L) : At w W.drew L := ⟨below_drew1 h.below, fun b hm => h.box b hm⟩
theorem At.start (w : World) : At w w [] := ⟨Below.refl _ _, fun b hm => by cases hm⟩
theorem At.alloc {w W : World} {L : List (Nat × Array Value × TypeId)} (h : At w W L) (cs : Array Value) (t : TypeId) : At w (W.alloc (.cells cs t)) ((W.heap.size, cs, t) :: L) := by
  refine ⟨below_alloc h.below _, fun b hm => ?_⟩
  rcases List.mem_cons.1 hm with rfl | hm
  · exact blk_new W _
  · exact blk_alloc (h.box b hm) _
theorem At.cell {w W : World} {L : List (Nat × Array Value × TypeId)} (h : At w W L) {g : Nat} {cs : Array Value} {t : TypeId} (hm : (g, cs, t) ∈ L) : ∀ o, W.cell? ⟨g, o, none⟩ = cs[o]? := fun o => blk_cell (h.box _ hm) o
theorem At.cell0 {w W : World} {L : List (Nat × Array Value × TypeId)} {g : Nat} {cs : Array Value} {t : TypeId} (h : At w W ((g, cs, t) :: L)) : ∀ o, W.cell? ⟨g, o, none⟩ = cs[o]? := h.cell (t := t) (by simp)
theorem At.cell1 {w W : World} {L : List (Nat × Array Value × TypeId)} {b0 : Nat × Array Value × TypeId} {g : Nat} {cs : Array Value} {t : TypeId} (h : At w W (b0 :: (g, cs, t) :: L)) : ∀ o, W.cell? ⟨g, o, none⟩ = cs[o]? := h.cell (t := t) (by simp)
theorem At.free {w W : World} {L : List (Nat × Array Value × TypeId)} (h : At w W L) {g : Nat} {cs : Array Value} {t : TypeId} (hm : (g, cs, t) ∈ L) : ∀ o, W.frozen? ⟨g, o, none⟩ = false := fun o => blk_frozen (h.box _ hm) o
theorem At.reads {α : Type} {d : Kd α} {w W : World} {L : List (Nat × Array Value × TypeId)} {A : Option Addr} {n : Nat} {xs : List α} (h : At w W L) (hr : d.C w A n xs) : d.C W A n xs := Kd.C_below hr h.below
theorem At.mono {w W : World} {L L' : List (Nat × Array Value × TypeId)} (h : At w W L) (hs : ∀ b ∈ L', b ∈ L) : At w W L' := ⟨h.below, fun b hm => h.box b (hs b hm)⟩
end Go.Proofs.YtkgdjhhokbbheaaDoor.Law
end
section
namespace Go.Proofs.YtkgdjhhokbbheaaDoor
open Go.RowKit Go.Proofs.YtkgdjhhokbbheaaDoorW.PrintWords Go.Proofs.YtkgdjhhokbbheaaDoorW.PrintMore Go.Proofs.YtkgdjhhokbbheaaDoor.QFnExactShowFunc
set_option linter.unusedVariables false
set_option linter.unusedSimpArgs false
set_option autoImplicit false
theorem C_map {α β : Type} {d : Kd α} {e : Kd β} (f : α → β) (hsz : d.sz = e.sz) (h : ∀ w x cs, d.K w x cs → e.K w (f x) cs) {w : World} {A : Option Addr} {l : List α} (hc : d.C w A l.length l) : e.C w A (l.map f).length (l.map f) := by
  refine ⟨rfl, by rw [List.length_map]; exact hc.2.1, fun hn => ?_⟩
  obtain ⟨ad, e1, hh⟩ := hc.2.2 (by rw [List.length_map] at hn; exact hn)
  refine ⟨ad, e1, fun j p hp => ?_⟩
  rw [List.getElem?_map] at hp
  cases hq : l[j]? with
  | none => rw [hq] at hp; cases hp
  | some q =>
    rw [hq] at hp
    obtain rfl : f q = p := by simpa using hp
    obtain ⟨c, h1, h2, h3⟩ := hh j q hq
    exact ⟨c, by rw [h1, hsz], h _ _ _ h2, by rw [← hsz]; exact h3⟩
def sCap (x : Cap) : S91 := ⟨x.reg, x.index⟩
def sIns (x : Ins) : S25 := ⟨x.op, x.a, x.b⟩
def sHandler (x : Handler) : S93 := ⟨x.from_, x.to_, x.target⟩
def sConst (x : Const) : S74 := ⟨x.kind, x.num, x.text⟩
def sFunc (x : Func) : S54 := ⟨x.params, x.regs, x.caps.map sCap, x.code.map sIns, x.handlers.map sHandler⟩
theorem sCap_K (w : World) (x : Cap) (cs : List Value) (h : kCap.K w x cs) : k91.K w (sCap x) cs := by
  have e := kCap_open h
  subst e
  exact k91_mk w (sCap x)
theorem sIns_K (w : World) (x : Ins) (cs : List Value) (h : kIns.K w x cs) : k25.K w (sIns x) cs := by
  have e := kIns_open h
  subst e
  exact k25_mk w (sIns x)
theorem sHandler_K (w : World) (x : Handler) (cs : List Value) (h : kHandler.K w x cs) : k93.K w (sHandler x) cs := by
  have e := kHandler_open h
  subst e
  exact k93_mk w (sHandler x)
theorem sConst_K (w : World) (x : Const) (cs : List Value) (h : kConst.K w x cs) : k74.K w (sConst x) cs := by
  have e := kConst_open h
  subst e
  exact k74_mk w (sConst x)
theorem sFunc_K (w : World) (x : Func) (cs : List Value) (h : kFuncI.K w x cs) : k54.K w (sFunc x) cs := by
  obtain ⟨A2, c2, A3, c3, A4, c4, rfl, l2, g2, l3, g3, l4, g4⟩ := kFuncI_open h
  have e2 : (sFunc x).f2.length = x.caps.length := List.length_map _
  have e3 : (sFunc x).f3.length = x.code.length := List.length_map _
  have e4 : (sFunc x).f4.length = x.handlers.length := List.length_map _
  have k := k54_mk w (sFunc x) (A2 := A2) (c2 := c2) (by rw [e2]; exact l2) (C_map sCap rfl sCap_K g2) (A3 := A3) (c3 := c3) (by rw [e3]; exact l3) (C_map sIns rfl sIns_K g3) (A4 := A4) (c4 := c4) (by rw [e4]; exact l4) (C_map sHandler rfl sHandler_K g4)
  rw [e2, e3, e4] at k
  exact k
/-- Of an image as read. -/
def imgB (x : Image) : Bool := Img.imageB (x.funcs.map sFunc) (x.consts.map sConst)
theorem num_map {x : Image} (hn : ∀ y ∈ x.consts, 0 ≤ y.num ∧ y.num < 18446744073709551616) : ∀ y ∈ x.consts.map sConst, 0 ≤ y.f1 ∧ y.f1 < 18446744073709551616 := by
  intro y hy
  obtain ⟨z, hz, rfl⟩ := List.mem_map.1 hy
  exact hn z hz
theorem cImageOkS (x : Image) (A0 : Option Addr) (c0 : Nat) (A1 : Option Addr) (c1 : Nat) (w : World) (l0 : x.funcs.length ≤ c0) (g0 : kFuncI.C w A0 x.funcs.length x.funcs) (l1 : x.consts.length ≤ c1) (g1 : kConst.C w A1 x.consts.length x.consts) (hn : ∀ y ∈ x.consts, 0 ≤ y.num ∧ y.num < 18446744073709551616) :
    Calls Tryd.prog 21 #[.agg #[.slice A0 x.funcs.length c0, .slice A1 x.consts.length c1]] w fun e w' => e = .returned (.bool (imgB x)) ∧ Below w.heap.size w w' := by
  have C := spec_ImageOk.calls 700 A0 c0 (x.funcs.map sFunc) A1 c1 (x.consts.map sConst) (imgB x) w (C_map sFunc rfl sFunc_K g0) (by rw [List.length_map]; exact l0) (C_map sConst rfl sConst_K g1) (by rw [List.length_map]; exact l1) (Img.spec_image _ _ (num_map hn) (Nat.le_refl _))
  rw [List.length_map, List.length_map] at C
  exact C
theorem cImageOkI (x : Image) (A0 : Option Addr) (c0 : Nat) (A1 : Option Addr) (c1 : Nat) (w : World) (l0 : x.funcs.length ≤ c0) (g0 : kFuncI.C w A0 x.funcs.length x.funcs) (l1 : x.consts.length ≤ c1) (g1 : kConst.C w A1 x.consts.length x.consts) (hn : ∀ y ∈ x.consts, 0 ≤ y.num ∧ y.num < 18446744073709551616) :
    Calls Tryd.prog 24 #[.agg #[.slice A0 x.funcs.length c0, .slice A1 x.consts.length c1]] w fun e w' => e = .returned (.bool (imgB x)) ∧ Below w.heap.size w w' := by
  have C := impl_ImageOk.calls 700 A0 c0 (x.funcs.map sFunc) A1 c1 (x.consts.map sConst) (imgB x) w (C_map sFunc rfl sFunc_K g0) (by rw [List.length_map]; exact l0) (C_map sConst rfl sConst_K g1) (by rw [List.length_map]; exact l1) (Img.impl_image _ _ (num_map hn) (Nat.le_refl _))
  rw [List.length_map, List.length_map] at C
  exact C
theorem img_func {x : Image} (h : imgB x = true) {f : Func} (hf : f ∈ x.funcs) : Img.fB (sFunc f) = true := by
  unfold imgB Img.imageB at h
  simp only [Bool.and_eq_true, List.all_eq_true] at h
  exact h.2.2.2.1 _ (List.mem_map_of_mem hf)
theorem func_code {f : Func} (h : Img.fB (sFunc f) = true) : 1 ≤ f.code.length ∧ f.code.length ≤ 300 ∧ ∀ i ∈ f.code, (1 ≤ i.op ∧ i.op ≤ 19) ∧ (0 ≤ i.a ∧ i.a ≤ 300) ∧ (0 ≤ i.b ∧ i.b ≤ 300) := by
  unfold Img.fB Img.funcB Img.inB at h
  simp only [Bool.and_eq_true, decide_eq_true_eq, List.all_eq_true] at h
  have hl : (sFunc f).f3.length = f.code.length := List.length_map _
  rw [hl] at h
  refine ⟨by omega, by omega, fun i hi => ?_⟩
  have h2 := h.2.2.2.2.2.2.1 (sIns i) (List.mem_map_of_mem hi)
  unfold Img.insB Img.inB at h2
  simp only [Bool.and_eq_true, decide_eq_true_eq] at h2
  exact ⟨h2.1, h2.2.1, h2.2.2⟩
end Go.Proofs.YtkgdjhhokbbheaaDoor
end
section
namespace Go.Proofs.YtkgdjhhokbbheaaDoor.Show
open Go.RowKit Go.Proofs.YtkgdjhhokbbheaaDoorW.PrintWords Go.Proofs.YtkgdjhhokbbheaaDoorW.PrintMore Go.Proofs.YtkgdjhhokbbheaaDoor.Law Go.Proofs.YtkgdjhhokbbheaaDoor
set_option linter.unusedVariables false
set_option linter.unusedSimpArgs false
set_option autoImplicit false
def lineB (x : Ins) : ByteArray := showB x.op x.a x.b ++ (⟨#[10]⟩ : ByteArray)
def linesTo (l : List Ins) (j : Nat) : ByteArray := (l.take j).foldl (fun o x => o ++ lineB x) (⟨#[]⟩ : ByteArray)
theorem linesTo_zero (l : List Ins) : linesTo l 0 = (⟨#[]⟩ : ByteArray) := rfl
theorem linesTo_succ {l : List Ins} {j : Nat} (h : j < l.length) : linesTo l (j + 1) = linesTo l j ++ lineB (el zIns l j) := by
  unfold linesTo
  rw [List.take_succ_eq_append_getElem h, List.foldl_append, el_lt zIns h]
  rfl
theorem showB_size (op a b : Int) : (showB op a b).size ≤ 49 := by
  have h1 := word_size op
  have h2 := dec_size a
  have h3 := dec_size b
  have e : (⟨#[32]⟩ : ByteArray).size = 1 := rfl
  unfold showB
  split
  · split
    · omega
    · split
      · rw [ByteArray.size_append, ByteArray.size_append, ByteArray.size_append, ByteArray.size_append, e]; omega
      · rw [ByteArray.size_append, ByteArray.size_append, e]; omega
  · show 0 ≤ 49; omega
theorem lineB_size (x : Ins) : (lineB x).size ≤ 50 := by
  have h := showB_size x.op x.a x.b
  have e : (⟨#[10]⟩ : ByteArray).size = 1 := rfl
  unfold lineB
  rw [ByteArray.size_append, e]; omega
theorem linesTo_size (l : List Ins) : ∀ j : Nat, j ≤ l.length → (linesTo l j).size ≤ 50 * j
  | 0, _ => by rw [linesTo_zero]; exact Nat.le_refl 0
  | j + 1, h => by
    have ih := linesTo_size l j (by omega)
    have h2 := lineB_size (el zIns l j)
    rw [linesTo_succ (by omega), ByteArray.size_append]; omega
/-- What is shown of a function of an image: nothing of none, and of no right image. -/
def showFB (x : Image) (fn : Int) : ByteArray :=
  if imgB x = true ∧ Img.inB fn 0 ((x.funcs.length : Int) - 1) = true then linesTo (el zFunc x.funcs fn.toNat).code (el zFunc x.funcs fn.toNat).code.length else (⟨#[]⟩ : ByteArray)
theorem bytesOf_append (a b : ByteArray) : bytesOf (a ++ b) = bytesOf a ++ bytesOf b := by
  unfold bytesOf
  rw [← List.map_append]
  congr 1
theorem str_bytesOf (s : ByteArray) : strOfNums (bytesOf s) = s := by
  unfold strOfNums bytesOf
  rw [List.map_map]
  have e : ((fun n : Int => UInt8.ofNat n.toNat) ∘ fun b : UInt8 => (b.toNat : Int)) = id := by
    funext b
    simp
  rw [e, List.map_id]
theorem func_at {w : World} {A : Option Addr} {l : List Func} (h : kFuncI.C w A l.length l) (j : Nat) (hj : j < l.length) : ∃ a A3 c3, A = some a ∧ w.cell? ⟨(a.add (j * 5)).block, (a.add (j * 5)).off + 3, none⟩ = some (.slice A3 (el zFunc l j).code.length c3) ∧ (el zFunc l j).code.length ≤ c3 ∧ kIns.C w A3 (el zFunc l j).code.length (el zFunc l j).code := by
  obtain ⟨a, c, e, hK, hc0⟩ := kd_at zFunc h j hj
  have hc : ∀ i u, c[i]? = some u → w.cell? (a.add (j * 5 + i)) = some u := hc0
  obtain ⟨A2, c2, A3, c3, A4, c4, rfl, l2, g2, l3, g3, l4, g4⟩ := kFuncI_open hK
  exact ⟨a, A3, c3, e, by rw [← add_field _ _ 3 (by omega)]; exact hc 3 _ rfl, l3, g3⟩
theorem R_empty {α : Type} (d : Kd α) (e : Nat) (W : World) : d.R e (W.alloc (.cells #[] e)) W.heap.size (fun _ => True) (.slice (some ⟨W.heap.size, 0, none⟩) 0 0) [] := by
  refine ⟨fun _ _ => trivial, [], ?_, Reps.none _ _⟩
  have h2 := World.ownsRow_lit (base := W.heap.size) (e := e) (size := d.sz) W #[] 0 (Nat.le_refl _) (by simp [maxLen]) (by simp)
  simpa using h2
end Go.Proofs.YtkgdjhhokbbheaaDoor.Show
end
section
namespace Go.Proofs.YtkgdjhhokbbheaaDoor.Law
open Go.RowKit Go.Proofs.YtkgdjhhokbbheaaDoorW.PrintWords Go.Proofs.YtkgdjhhokbbheaaDoorW.PrintMore
set_option linter.unusedVariables false
/-- A holding: the blocks lo .. hi, and what the world says of them. -/
structure Hold where
  lo : Nat
  hi : Nat
  P : World → Prop
  mv : ∀ {W W2 : World}, (∀ k, lo ≤ k → k < hi → k < W.heap.size → W2.heap[k]? = W.heap[k]?) → P W → P W2
def Hold.box (g : Nat) (cs : Array Value) (t : TypeId) : Hold := ⟨g, g + 1, fun W => W.heap[g]? = some (.cells cs t (0, 0)), fun hm h => (hm g (Nat.le_refl _) (Nat.lt_succ_self _) (blk_lt h)).trans h⟩
def Hold.val {α : Type} (d : Kd α) (lo hi : Nat) (x : α) (cs : List Value) : Hold := ⟨lo, hi, fun W => d.M W lo (fun k => lo ≤ k ∧ k < hi) x cs, fun hm h => Kd.M_step h (fun k hk hlt => hm k hk.1 hk.2 hlt)⟩
structure Mem (w W : World) (H : List Hold) : Prop where
  below : Below w.heap.size w W
  says : ∀ h ∈ H, h.P W
  fits : ∀ h ∈ H, w.heap.size ≤ h.lo ∧ h.hi ≤ W.heap.size
  apart : H.Pairwise (fun a b => b.hi ≤ a.lo ∨ a.hi ≤ b.lo)
theorem Mem.hide {w W : World} {H : List Hold} (h : Aside0 (Mem w W H)) : ∃ L, Aside0 (L = H) ∧ Aside0 (Mem w W L) := ⟨H, ⟨rfl⟩, h⟩
theorem Mem.start (w : World) : Mem w w [] := ⟨Below.refl _ _, fun _ h => absurd h List.not_mem_nil, fun _ h => absurd h List.not_mem_nil, List.Pairwise.nil⟩
theorem Mem.step {w W W2 : World} {H : List Hold} (h : Mem w W H) (hb : Below W.heap.size W W2) : Mem w W2 H :=
  ⟨below_step h.below hb, fun x hx => x.mv (fun k _ _ hlt => hb.block k hlt) (h.says x hx), fun x hx => ⟨(h.fits x hx).1, Nat.le_trans (h.fits x hx).2 hb.size⟩, h.apart⟩
theorem Mem.drew {w W : World} {H : List Hold} (h : Mem w W H) : Mem w W.drew H := h.step (below_drew1 (Below.refl _ _))
theorem Mem.draw {w W : World} {H : List Hold} (h : Mem w W H) (n : Nat) : Mem w (W.drewN n) H := h.step (pw_below_drewN (Below.refl _ _) n)
theorem Mem.alloc {w W : World} {H : List Hold} (h : Mem w W H) (cs : Array Value) (t : TypeId) : Mem w (W.alloc (.cells cs t)) (Hold.box W.heap.size cs t :: H) := by
  have h2 := h.step (below_alloc (Below.refl W.heap.size W) (.cells cs t))
  refine ⟨h2.below, fun x hx => ?_, fun x hx => ?_, List.Pairwise.cons (fun b hb => .inl (h.fits b hb).2) h.apart⟩
  · rcases List.mem_cons.1 hx with rfl | hx
    · exact blk_new W _
    · exact h2.says x hx
  · rcases List.mem_cons.1 hx with rfl | hx
    · exact ⟨h.below.size, by simp [Hold.box]⟩
    · exact h2.fits x hx
theorem Mem.push {α : Type} {d : Kd α} {w W W2 : World} {H : List Hold} {x : α} {cs : List Value} (h : Mem w W H) (hb : Below W.heap.size W W2) (hm : d.M W2 W.heap.size (fun _ => True) x cs) : Mem w W2 (Hold.val d W.heap.size W2.heap.size x cs :: H) := by
  have h2 := h.step hb
  refine ⟨h2.below, fun y hy => ?_, fun y hy => ?_, List.Pairwise.cons (fun b hb => .inl (h.fits b hb).2) h.apart⟩
  · rcases List.mem_cons.1 hy with rfl | hy
    · exact d.M_mono (fun k hk => ⟨hk.2.1, hk.2.2.1⟩) (d.M_bound hm)
    · exact h2.says y hy
  · rcases List.mem_cons.1 hy with rfl | hy
    · exact ⟨h.below.size, Nat.le_refl _⟩
    · exact h2.fits y hy
theorem Mem.box {w W : World} {H : List Hold} {g : Nat} {cs : Array Value} {t : TypeId} (h : Mem w W H) (hm : Hold.box g cs t ∈ H) : ∀ o, W.cell? ⟨g, o, none⟩ = cs[o]? := fun o => blk_cell (h.says _ hm) o
theorem Mem.val {α : Type} {d : Kd α} {w W : World} {H : List Hold} {lo hi : Nat} {x : α} {cs : List Value} (h : Mem w W H) (hm : Hold.val d lo hi x cs ∈ H) : d.M W lo (fun k => lo ≤ k ∧ k < hi) x cs := h.says _ hm
theorem Mem.read {α : Type} {d : Kd α} {w W : World} {H : List Hold} {lo hi : Nat} {x : α} {cs : List Value} (h : Mem w W H) (hm : Hold.val d lo hi x cs ∈ H) : d.K W x cs := d.K_of_M (h.val hm)
theorem Mem.old {α : Type} {d : Kd α} {w W : World} {H : List Hold} {x : α} {cs : List Value} (h : Mem w W H) (hk : d.K w x cs) : d.K W x cs := d.K_below h.below hk
theorem Mem.drop {w W : World} {h0 : Hold} {H : List Hold} (h : Mem w W (h0 :: H)) : Mem w W H := ⟨h.below, fun x hx => h.says x (.tail _ hx), fun x hx => h.fits x (.tail _ hx), (List.pairwise_cons.1 h.apart).2⟩
theorem Mem.allocAt {w W : World} {H : List Hold} (h : Mem w W H) {g : Nat} (hg : g = W.heap.size) (cs : Array Value) (t : TypeId) : Mem w (W.alloc (.cells cs t)) (Hold.box g cs t :: H) := hg ▸ h.alloc cs t
theorem Mem.pushR {α : Type} {d : Kd α} {e : Nat} {w W W2 : World} {H : List Hold} {l : List α} {v : Value} (h : Mem w W H) (hb : Below W.heap.size W W2) (hr : d.R e W2 W.heap.size (fun _ => True) v l) : Mem w W2 (Hold.val (Kd.slice e d) W.heap.size W2.heap.size l [v] :: H) := h.push hb ⟨v, rfl, hr⟩
theorem Mem.row {α : Type} {d : Kd α} {e : Nat} {w W : World} {H : List Hold} {lo hi : Nat} {l : List α} {v : Value} (h : Mem w W H) (hm : Hold.val (Kd.slice e d) lo hi l [v] ∈ H) : d.R e W lo (fun k => lo ≤ k ∧ k < hi) v l := by
  obtain ⟨v2, he, hr⟩ := h.val hm
  cases he
  exact hr
theorem Mem.rowT {α : Type} {d : Kd α} {e : Nat} {w W : World} {H : List Hold} {lo hi : Nat} {l : List α} {v : Value} (h : Mem w W H) (hm : Hold.val (Kd.slice e d) lo hi l [v] ∈ H) : d.R e W w.heap.size (fun _ => True) v l := Kd.R_mono (Kd.R_lower (h.row hm) (h.fits _ hm).1) (fun _ _ => trivial)
theorem Mem.free {w W : World} {H : List Hold} {g : Nat} {cs : Array Value} {t : TypeId} (h : Mem w W H) (hm : Hold.box g cs t ∈ H) : ∀ o, W.frozen? ⟨g, o, none⟩ = false := fun o => blk_frozen (h.says _ hm) o
theorem Mem.blk {w W : World} {H : List Hold} {g : Nat} {cs : Array Value} {t : TypeId} (h : Mem w W H) (hm : Hold.box g cs t ∈ H) : W.heap[g]? = some (.cells cs t (0, 0)) := h.says _ hm
/-- One holding's blocks alone are written. -/
theorem Mem.swap {w W W2 : World} {A B : List Hold} {a b : Hold} (h : Mem w W (A ++ a :: B)) (hl : b.lo = a.lo) (hh : b.hi = a.hi) (hb : Below w.heap.size w W2) (hk : Kept W W2 (fun k => a.lo ≤ k ∧ k < a.hi)) (hv : b.P W2) : Mem w W2 (A ++ b :: B) := by
  have ha := h.apart
  rw [List.pairwise_append] at ha
  obtain ⟨hA, hB, hAB⟩ := ha
  rw [List.pairwise_cons] at hB
  have key : ∀ z : Hold, (z ∈ A ∨ z ∈ B) → z.P W → z.P W2 := by
    intro z hz hp
    refine z.mv (fun k h1 h2 h3 => hk.2 k h3 ?_) hp
    rintro ⟨h4, h5⟩
    rcases hz with hz | hz
    · have := hAB z hz a List.mem_cons_self
      omega
    · have := hB.1 z hz
      omega
  refine ⟨hb, fun z hz => ?_, fun z hz => ?_, ?_⟩
  · rcases List.mem_append.1 hz with hz | hz
    · exact key z (.inl hz) (h.says z (List.mem_append_left _ hz))
    · rcases List.mem_cons.1 hz with rfl | hz
      · exact hv
      · exact key z (.inr hz) (h.says z (List.mem_append_right _ (List.mem_cons_of_mem _ hz)))
  · have hs := hk.1
    rcases List.mem_append.1 hz with hz | hz
    · have := h.fits z (List.mem_append_left _ hz)
      exact ⟨this.1, Nat.le_trans this.2 hs⟩
    · rcases List.mem_cons.1 hz with rfl | hz
      · have := h.fits a (List.mem_append_right _ List.mem_cons_self)
        rw [hl, hh]
        exact ⟨this.1, Nat.le_trans this.2 hs⟩
      · have := h.fits z (List.mem_append_right _ (List.mem_cons_of_mem _ hz))
        exact ⟨this.1, Nat.le_trans this.2 hs⟩
  · rw [List.pairwise_append]
    refine ⟨hA, List.pairwise_cons.2 ⟨fun z hz => by rw [hl, hh]; exact hB.1 z hz, hB.2⟩, fun c hc b' hb' => ?_⟩
    rcases List.mem_cons.1 hb' with rfl | hb'
    · rw [hh, hl]
      exact hAB c hc a List.mem_cons_self
    · exact hAB c hc b' (List.mem_cons_of_mem _ hb')
/-- A box's cell is written. -/
theorem Mem.set {w W : World} {A B : List Hold} {g : Nat} {cs : Array Value} {t : TypeId} (h : Mem w W (A ++ Hold.box g cs t :: B)) (j : Nat) (u : Value) {cs' : Array Value} (e : cs.setIfInBounds j u = cs') : Mem w (W.setCell ⟨g, j, none⟩ u) (A ++ Hold.box g cs' t :: B) := by
  have hm : Hold.box g cs t ∈ A ++ Hold.box g cs t :: B := List.mem_append_right _ List.mem_cons_self
  refine Mem.swap (a := Hold.box g cs t) (b := Hold.box g cs' t) h rfl rfl (below_set h.below (h.fits _ hm).1) ?_ (blk_put (h.says _ hm) j u e)
  exact Kept.setCell (Kept.refl _ _) (.inl ⟨Nat.le_refl _, Nat.lt_succ_self _⟩) u
end Go.Proofs.YtkgdjhhokbbheaaDoor.Law
end
