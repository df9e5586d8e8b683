/- Part 19 of the proof: general lemmas, contracts of functions, walks. No condition of its own. -/
import Derived.Test.YtokhgodcamhibaaBd14
import Derived.Test.YtokhgodcamhibaaBd15
import Derived.Test.YtokhgodcamhibaaBd18
import Derived.Test.YtokhgodcamhibaaBd9
import Derived.Test.YtokhgodcamhibaaBd16
import Derived.Test.YtokhgodcamhibaaBd17
section
namespace Go.Proofs.Ytokhgodcamhibaa.QFnExactDoBinary
open Go.RowKit Go.Proofs.YtokhgodcamhibaaW.PrintWords Go.Proofs.YtokhgodcamhibaaW.PrintLast Go.Proofs.YtokhgodcamhibaaW.PrintMore
attribute [local go_sem] max_two min_two max_three min_three max_four min_four run_field34_0 max2_mx min2_mn   -- for this text's walks alone
set_option linter.unusedVariables false
set_option linter.unusedSimpArgs false
mutual
def spec_Mul.j0 : Nat → Bool → Bool → Int → Bool → Int → Int → Int → Bool → Int → Int → Option (Int)
  | 0, _, _, _, _, _, _, _, _, _, _ => none
  | k + 1, x7, x48, x162000, x162001, x162002, x162003, x167000, x167001, x167002, x167003 => if x48 = true then (some 9221120237041090560) else (if x162000 = 2 then (spec_Mul.j1 k x7 true x162000 x162001 x162002 x162003 x167000 x167001 x167002 x167003) else (spec_Mul.j1 k x7 (x167000 == 2) x162000 x162001 x162002 x162003 x167000 x167001 x167002 x167003))
def spec_Mul.j1 : Nat → Bool → Bool → Int → Bool → Int → Int → Int → Bool → Int → Int → Option (Int)
  | 0, _, _, _, _, _, _, _, _, _, _ => none
  | k + 1, x7, x56, x162000, x162001, x162002, x162003, x167000, x167001, x167002, x167003 => if x56 = true then ((spec_l03Sign.f k 9218868437227405312 x7).bind fun t167 => (some t167)) else (if x162000 = 3 then (spec_Mul.j2 k x7 true x162000 x162001 x162002 x162003 x167000 x167001 x167002 x167003) else (spec_Mul.j2 k x7 (x167000 == 3) x162000 x162001 x162002 x162003 x167000 x167001 x167002 x167003))
def spec_Mul.j2 : Nat → Bool → Bool → Int → Bool → Int → Int → Int → Bool → Int → Int → Option (Int)
  | 0, _, _, _, _, _, _, _, _, _, _ => none
  | k + 1, x7, x66, x162000, x162001, x162002, x162003, x167000, x167001, x167002, x167003 => if x66 = true then ((spec_l03Sign.f k 0 x7).bind fun t168 => (some t168)) else ((spec_Wide.f x162002 x167002).bind fun bt169 => (spec_Mul.l0 k x7 bt169.1 bt169.2 (wrap64 (x162003 + x167003)) false))
def spec_Mul.l0 : Nat → Bool → Int → Int → Int → Bool → Option (Int)
  | 0, _, _, _, _, _ => none
  | k + 1, x7, x8, x9, x10, x11 => if x8 > 0 then (if x11 = true then ((spec_l03Pow.f k 63).bind fun t171 => (spec_Mul.l0 k x7 (IntKind.u64.wrap (Int.tdiv x8 2)) (IntKind.u64.wrap ((IntKind.u64.wrap (Int.tdiv x9 2)) + (IntKind.u64.wrap ((Int.tmod x8 2) * t171)))) (wrap64 (x10 + 1)) true)) else ((spec_l03Pow.f k 63).bind fun t172 => (spec_Mul.l0 k x7 (IntKind.u64.wrap (Int.tdiv x8 2)) (IntKind.u64.wrap ((IntKind.u64.wrap (Int.tdiv x9 2)) + (IntKind.u64.wrap ((Int.tmod x8 2) * t172)))) (wrap64 (x10 + 1)) ((Int.tmod x9 2) == 1)))) else ((spec_RoundTo.f k x7 x9 x10 x11).bind fun t173 => (some t173))
end
def spec_Mul.f (k : Nat) (a0 : Int) (a1 : Int) : Option (Int) := (spec_PartsOfNumber.f k a0).bind fun bt157 => ((spec_PartsOfNumber.f k a1).bind fun bt162 => (if bt157.1 = 1 then (spec_Mul.j0 k (bt157.2.1 != bt162.2.1) true bt157.1 bt157.2.1 bt157.2.2.1 bt157.2.2.2 bt162.1 bt162.2.1 bt162.2.2.1 bt162.2.2.2) else (if bt162.1 = 1 then (spec_Mul.j0 k (bt157.2.1 != bt162.2.1) true bt157.1 bt157.2.1 bt157.2.2.1 bt157.2.2.2 bt162.1 bt162.2.1 bt162.2.2.1 bt162.2.2.2) else (if bt157.1 = 2 then (if bt162.1 = 3 then (spec_Mul.j0 k (bt157.2.1 != bt162.2.1) true bt157.1 bt157.2.1 bt157.2.2.1 bt157.2.2.2 bt162.1 bt162.2.1 bt162.2.2.1 bt162.2.2.2) else (if bt157.1 = 3 then (spec_Mul.j0 k (bt157.2.1 != bt162.2.1) (bt162.1 == 2) bt157.1 bt157.2.1 bt157.2.2.1 bt157.2.2.2 bt162.1 bt162.2.1 bt162.2.2.1 bt162.2.2.2) else (spec_Mul.j0 k (bt157.2.1 != bt162.2.1) false bt157.1 bt157.2.1 bt157.2.2.1 bt157.2.2.2 bt162.1 bt162.2.1 bt162.2.2.1 bt162.2.2.2))) else (if bt157.1 = 3 then (spec_Mul.j0 k (bt157.2.1 != bt162.2.1) (bt162.1 == 2) bt157.1 bt157.2.1 bt157.2.2.1 bt157.2.2.2 bt162.1 bt162.2.1 bt162.2.2.1 bt162.2.2.2) else (spec_Mul.j0 k (bt157.2.1 != bt162.2.1) false bt157.1 bt157.2.1 bt157.2.2.1 bt157.2.2.2 bt162.1 bt162.2.1 bt162.2.2.1 bt162.2.2.2))))))
theorem spec_Mul.mono_l : ∀ k, (∀ y0 y1 y2 y3 y4 y5 y6 y7 y8 y9, LeO (spec_Mul.j0 k y0 y1 y2 y3 y4 y5 y6 y7 y8 y9) (spec_Mul.j0 (k + 1) y0 y1 y2 y3 y4 y5 y6 y7 y8 y9)) ∧ (∀ y0 y1 y2 y3 y4 y5 y6 y7 y8 y9, LeO (spec_Mul.j1 k y0 y1 y2 y3 y4 y5 y6 y7 y8 y9) (spec_Mul.j1 (k + 1) y0 y1 y2 y3 y4 y5 y6 y7 y8 y9)) ∧ (∀ y0 y1 y2 y3 y4 y5 y6 y7 y8 y9, LeO (spec_Mul.j2 k y0 y1 y2 y3 y4 y5 y6 y7 y8 y9) (spec_Mul.j2 (k + 1) y0 y1 y2 y3 y4 y5 y6 y7 y8 y9)) ∧ (∀ y0 y1 y2 y3 y4, LeO (spec_Mul.l0 k y0 y1 y2 y3 y4) (spec_Mul.l0 (k + 1) y0 y1 y2 y3 y4))
  | 0 => ⟨fun _ _ _ _ _ _ _ _ _ _ r h => by simp [spec_Mul.j0] at h, fun _ _ _ _ _ _ _ _ _ _ r h => by simp [spec_Mul.j1] at h, fun _ _ _ _ _ _ _ _ _ _ r h => by simp [spec_Mul.j2] at h, fun _ _ _ _ _ r h => by simp [spec_Mul.l0] at h⟩
  | k + 1 => by
    obtain ⟨ih0, ih1, ih2, ih3⟩ := spec_Mul.mono_l k
    refine ⟨?_, ?_, ?_, ?_⟩
    · intro y0 y1 y2 y3 y4 y5 y6 y7 y8 y9
      unfold spec_Mul.j0
      repeat' first
      | (with_reducible exact ih0 _ _ _ _ _ _ _ _ _ _)
      | (with_reducible exact ih1 _ _ _ _ _ _ _ _ _ _)
      | (with_reducible exact ih2 _ _ _ _ _ _ _ _ _ _)
      | (with_reducible exact ih3 _ _ _ _ _)
      | (with_reducible exact spec_PartsOfNumber.mono _ _)
      | (with_reducible exact spec_RoundTo.mono _ _ _ _ _)
      | (with_reducible exact spec_l03Pow.mono _ _)
      | (with_reducible exact spec_l03Sign.mono _ _ _)
      | (with_reducible exact LeO.refl _)
      | (with_reducible exact LeO.none _)
      | (with_reducible refine LeO.ite ?_ ?_)
      | (with_reducible refine LeO.bind ?_ (fun _ => ?_))
      | exact ih0 _ _ _ _ _ _ _ _ _ _
      | exact ih1 _ _ _ _ _ _ _ _ _ _
      | exact ih2 _ _ _ _ _ _ _ _ _ _
      | exact ih3 _ _ _ _ _
      | exact spec_PartsOfNumber.mono _ _
      | exact spec_RoundTo.mono _ _ _ _ _
      | exact spec_l03Pow.mono _ _
      | exact spec_l03Sign.mono _ _ _
      | exact LeO.none _
      | refine LeO.ite ?_ ?_
      | refine LeO.bind ?_ (fun _ => ?_)
    · intro y0 y1 y2 y3 y4 y5 y6 y7 y8 y9
      unfold spec_Mul.j1
      repeat' first
      | (with_reducible exact ih0 _ _ _ _ _ _ _ _ _ _)
      | (with_reducible exact ih1 _ _ _ _ _ _ _ _ _ _)
      | (with_reducible exact ih2 _ _ _ _ _ _ _ _ _ _)
      | (with_reducible exact ih3 _ _ _ _ _)
      | (with_reducible exact spec_PartsOfNumber.mono _ _)
      | (with_reducible exact spec_RoundTo.mono _ _ _ _ _)
      | (with_reducible exact spec_l03Pow.mono _ _)
      | (with_reducible exact spec_l03Sign.mono _ _ _)
      | (with_reducible exact LeO.refl _)
      | (with_reducible exact LeO.none _)
      | (with_reducible refine LeO.ite ?_ ?_)
      | (with_reducible refine LeO.bind ?_ (fun _ => ?_))
      | exact ih0 _ _ _ _ _ _ _ _ _ _
      | exact ih1 _ _ _ _ _ _ _ _ _ _
      | exact ih2 _ _ _ _ _ _ _ _ _ _
      | exact ih3 _ _ _ _ _
      | exact spec_PartsOfNumber.mono _ _
      | exact spec_RoundTo.mono _ _ _ _ _
      | exact spec_l03Pow.mono _ _
      | exact spec_l03Sign.mono _ _ _
      | exact LeO.none _
      | refine LeO.ite ?_ ?_
      | refine LeO.bind ?_ (fun _ => ?_)
    · intro y0 y1 y2 y3 y4 y5 y6 y7 y8 y9
      unfold spec_Mul.j2
      repeat' first
      | (with_reducible exact ih0 _ _ _ _ _ _ _ _ _ _)
      | (with_reducible exact ih1 _ _ _ _ _ _ _ _ _ _)
      | (with_reducible exact ih2 _ _ _ _ _ _ _ _ _ _)
      | (with_reducible exact ih3 _ _ _ _ _)
      | (with_reducible exact spec_PartsOfNumber.mono _ _)
      | (with_reducible exact spec_RoundTo.mono _ _ _ _ _)
      | (with_reducible exact spec_l03Pow.mono _ _)
      | (with_reducible exact spec_l03Sign.mono _ _ _)
      | (with_reducible exact LeO.refl _)
      | (with_reducible exact LeO.none _)
      | (with_reducible refine LeO.ite ?_ ?_)
      | (with_reducible refine LeO.bind ?_ (fun _ => ?_))
      | exact ih0 _ _ _ _ _ _ _ _ _ _
      | exact ih1 _ _ _ _ _ _ _ _ _ _
      | exact ih2 _ _ _ _ _ _ _ _ _ _
      | exact ih3 _ _ _ _ _
      | exact spec_PartsOfNumber.mono _ _
      | exact spec_RoundTo.mono _ _ _ _ _
      | exact spec_l03Pow.mono _ _
      | exact spec_l03Sign.mono _ _ _
      | exact LeO.none _
      | refine LeO.ite ?_ ?_
      | refine LeO.bind ?_ (fun _ => ?_)
    · intro y0 y1 y2 y3 y4
      unfold spec_Mul.l0
      repeat' first
      | (with_reducible exact ih0 _ _ _ _ _ _ _ _ _ _)
      | (with_reducible exact ih1 _ _ _ _ _ _ _ _ _ _)
      | (with_reducible exact ih2 _ _ _ _ _ _ _ _ _ _)
      | (with_reducible exact ih3 _ _ _ _ _)
      | (with_reducible exact spec_PartsOfNumber.mono _ _)
      | (with_reducible exact spec_RoundTo.mono _ _ _ _ _)
      | (with_reducible exact spec_l03Pow.mono _ _)
      | (with_reducible exact spec_l03Sign.mono _ _ _)
      | (with_reducible exact LeO.refl _)
      | (with_reducible exact LeO.none _)
      | (with_reducible refine LeO.ite ?_ ?_)
      | (with_reducible refine LeO.bind ?_ (fun _ => ?_))
      | exact ih0 _ _ _ _ _ _ _ _ _ _
      | exact ih1 _ _ _ _ _ _ _ _ _ _
      | exact ih2 _ _ _ _ _ _ _ _ _ _
      | exact ih3 _ _ _ _ _
      | exact spec_PartsOfNumber.mono _ _
      | exact spec_RoundTo.mono _ _ _ _ _
      | exact spec_l03Pow.mono _ _
      | exact spec_l03Sign.mono _ _ _
      | exact LeO.none _
      | refine LeO.ite ?_ ?_
      | refine LeO.bind ?_ (fun _ => ?_)
theorem spec_Mul.mono : ∀ a0 a1 k, LeO (spec_Mul.f k a0 a1) (spec_Mul.f (k + 1) a0 a1) := by
  intro a0 a1 k
  obtain ⟨ih0, ih1, ih2, ih3⟩ := spec_Mul.mono_l k
  unfold spec_Mul.f
  repeat' first
      | (with_reducible exact ih0 _ _ _ _ _ _ _ _ _ _)
      | (with_reducible exact ih1 _ _ _ _ _ _ _ _ _ _)
      | (with_reducible exact ih2 _ _ _ _ _ _ _ _ _ _)
      | (with_reducible exact ih3 _ _ _ _ _)
      | (with_reducible exact spec_PartsOfNumber.mono _ _)
      | (with_reducible exact spec_RoundTo.mono _ _ _ _ _)
      | (with_reducible exact spec_l03Pow.mono _ _)
      | (with_reducible exact spec_l03Sign.mono _ _ _)
      | (with_reducible exact LeO.refl _)
      | (with_reducible exact LeO.none _)
      | (with_reducible refine LeO.ite ?_ ?_)
      | (with_reducible refine LeO.bind ?_ (fun _ => ?_))
      | exact ih0 _ _ _ _ _ _ _ _ _ _
      | exact ih1 _ _ _ _ _ _ _ _ _ _
      | exact ih2 _ _ _ _ _ _ _ _ _ _
      | exact ih3 _ _ _ _ _
      | exact spec_PartsOfNumber.mono _ _
      | exact spec_RoundTo.mono _ _ _ _ _
      | exact spec_l03Pow.mono _ _
      | exact spec_l03Sign.mono _ _ _
      | exact LeO.none _
      | refine LeO.ite ?_ ?_
      | refine LeO.bind ?_ (fun _ => ?_)
set_option maxHeartbeats 8000000 in
set_option maxRecDepth 100000 in
theorem spec_Mul.calls (k : Nat) (a0 : Int) (a1 : Int) (r : Int) (w : World) (h : spec_Mul.f k a0 a1 = some r) :
    Calls Try.prog 18 #[.int .u64 a0, .int .u64 a1] w fun e w' => e = .returned (.int .u64 r) ∧ Below w.heap.size w w' := by
  have hu34 := Try.underlying34
  have HB := Aside0.mk (Below.refl w.heap.size w)
  have H : ((spec_PartsOfNumber.f k a0).bind fun bt157 => ((spec_PartsOfNumber.f k a1).bind fun bt162 => (if bt157.1 = 1 then (spec_Mul.j0 k (bt157.2.1 != bt162.2.1) true bt157.1 bt157.2.1 bt157.2.2.1 bt157.2.2.2 bt162.1 bt162.2.1 bt162.2.2.1 bt162.2.2.2) else (if bt162.1 = 1 then (spec_Mul.j0 k (bt157.2.1 != bt162.2.1) true bt157.1 bt157.2.1 bt157.2.2.1 bt157.2.2.2 bt162.1 bt162.2.1 bt162.2.2.1 bt162.2.2.2) else (if bt157.1 = 2 then (if bt162.1 = 3 then (spec_Mul.j0 k (bt157.2.1 != bt162.2.1) true bt157.1 bt157.2.1 bt157.2.2.1 bt157.2.2.2 bt162.1 bt162.2.1 bt162.2.2.1 bt162.2.2.2) else (if bt157.1 = 3 then (spec_Mul.j0 k (bt157.2.1 != bt162.2.1) (bt162.1 == 2) bt157.1 bt157.2.1 bt157.2.2.1 bt157.2.2.2 bt162.1 bt162.2.1 bt162.2.2.1 bt162.2.2.2) else (spec_Mul.j0 k (bt157.2.1 != bt162.2.1) false bt157.1 bt157.2.1 bt157.2.2.1 bt157.2.2.2 bt162.1 bt162.2.1 bt162.2.2.1 bt162.2.2.2))) else (if bt157.1 = 3 then (spec_Mul.j0 k (bt157.2.1 != bt162.2.1) (bt162.1 == 2) bt157.1 bt157.2.1 bt157.2.2.1 bt157.2.2.2 bt162.1 bt162.2.1 bt162.2.2.1 bt162.2.2.2) else (spec_Mul.j0 k (bt157.2.1 != bt162.2.1) false bt157.1 bt157.2.1 bt157.2.2.1 bt157.2.2.2 bt162.1 bt162.2.1 bt162.2.2.1 bt162.2.2.2))))))) = some r := h
  clear h
  replace H := Option.bind_eq_some_iff.mp H
  obtain ⟨⟨t157, t158, t159, t160⟩, A30, H⟩ := H
  replace H : ((spec_PartsOfNumber.f k a1).bind fun bt162 => (if t157 = 1 then (spec_Mul.j0 k (t158 != bt162.2.1) true t157 t158 t159 t160 bt162.1 bt162.2.1 bt162.2.2.1 bt162.2.2.2) else (if bt162.1 = 1 then (spec_Mul.j0 k (t158 != bt162.2.1) true t157 t158 t159 t160 bt162.1 bt162.2.1 bt162.2.2.1 bt162.2.2.2) else (if t157 = 2 then (if bt162.1 = 3 then (spec_Mul.j0 k (t158 != bt162.2.1) true t157 t158 t159 t160 bt162.1 bt162.2.1 bt162.2.2.1 bt162.2.2.2) else (if t157 = 3 then (spec_Mul.j0 k (t158 != bt162.2.1) (bt162.1 == 2) t157 t158 t159 t160 bt162.1 bt162.2.1 bt162.2.2.1 bt162.2.2.2) else (spec_Mul.j0 k (t158 != bt162.2.1) false t157 t158 t159 t160 bt162.1 bt162.2.1 bt162.2.2.1 bt162.2.2.2))) else (if t157 = 3 then (spec_Mul.j0 k (t158 != bt162.2.1) (bt162.1 == 2) t157 t158 t159 t160 bt162.1 bt162.2.1 bt162.2.2.1 bt162.2.2.2) else (spec_Mul.j0 k (t158 != bt162.2.1) false t157 t158 t159 t160 bt162.1 bt162.2.1 bt162.2.2.1 bt162.2.2.2)))))) = some r := H
  have A3 := Aside0.mk A30
  clear A30
  replace H := Option.bind_eq_some_iff.mp H
  obtain ⟨⟨t162, t163, t164, t165⟩, A40, H⟩ := H
  replace H : (if t157 = 1 then (spec_Mul.j0 k (t158 != t163) true t157 t158 t159 t160 t162 t163 t164 t165) else (if t162 = 1 then (spec_Mul.j0 k (t158 != t163) true t157 t158 t159 t160 t162 t163 t164 t165) else (if t157 = 2 then (if t162 = 3 then (spec_Mul.j0 k (t158 != t163) true t157 t158 t159 t160 t162 t163 t164 t165) else (if t157 = 3 then (spec_Mul.j0 k (t158 != t163) (t162 == 2) t157 t158 t159 t160 t162 t163 t164 t165) else (spec_Mul.j0 k (t158 != t163) false t157 t158 t159 t160 t162 t163 t164 t165))) else (if t157 = 3 then (spec_Mul.j0 k (t158 != t163) (t162 == 2) t157 t158 t159 t160 t162 t163 t164 t165) else (spec_Mul.j0 k (t158 != t163) false t157 t158 t159 t160 t162 t163 t164 t165))))) = some r := H
  have A4 := Aside0.mk A40
  clear A40
  have HC5 := Aside0.mk H
  clear H
  go_enter Try.func18, Try.ntmps18
  go_upto_region 4 with (first | ((with_reducible refine gate_callee (f := 16) rfl ?_); refine goesL_ (some 13) rfl rfl Try.func16 (by kernel_rfl) rfl #[.int .u64 a0] rfl (by (try simp only [List.map_toArray, List.map_cons, List.map_nil]); first | done | rfl | (simp only [List.length_drop, List.length_take]; rfl)) ?_; (with_reducible refine (spec_PartsOfNumber.calls k a0 t157 t158 t159 t160 _ A3.out).mono ?_); rintro e w6 ⟨rfl, hb⟩; refine ⟨_, rfl, ?_⟩; have n0_ := Aside0.mk (below_step (by repeat (first | (with_reducible first | exact HB.out | apply below_alloc | apply pw_below_drewN | apply below_drew1) | exact HB.out)) hb); clear HB; have HB := n0_; clear n0_; (try clear hb); (try clear hb2); (try clear hk); (try clear hi)) | ((with_reducible refine gate_dst (N := 5) rfl ?_); refine box_event ?hg (N := 5) ?hd (cs := #[.int .i64 0, .bool false, .int .u64 0, .int .i64 0]) (t := 34) ?hr ?_; (case hd => rfl); (case hg => rfl); (case hr => first | (go_simp; done) | (go_simp; rfl)); intro gb161 hg w7 hbox hb; have n0_ := Aside0.mk (below_step (by repeat (first | (with_reducible first | exact HB.out | apply below_alloc | apply pw_below_drewN | apply below_drew1) | exact HB.out)) hb); have n1_ := Aside0.mk (hbox); have n2_ := Aside0.mk ((by rw [hg]; exact (below_size (by repeat (first | (with_reducible first | exact HB.out | apply below_alloc | apply pw_below_drewN | apply below_drew1) | exact HB.out))) : w.heap.size ≤ gb161)); have n3_ := Aside0.mk ((by rw [hg]; exact (below_size (by repeat (first | (with_reducible first | exact HB.out | apply below_alloc | apply pw_below_drewN | apply below_drew1) | exact HB.out))) : w.heap.size ≤ gb161)); clear HB; have HB := n0_; have BK161 := n1_; have GW161 := n2_; have GE161 := n3_; clear n0_ n1_ n2_ n3_; clear hb hbox hg; have hcz8_0 : w7.cell? ⟨gb161, 0, none⟩ = some (.int .i64 0) := (blk_cell BK161.out 0).trans rfl; have hcz8_1 : w7.cell? ⟨gb161, 1, none⟩ = some (.bool false) := (blk_cell BK161.out 1).trans rfl; have hcz8_2 : w7.cell? ⟨gb161, 2, none⟩ = some (.int .u64 0) := (blk_cell BK161.out 2).trans rfl; have hcz8_3 : w7.cell? ⟨gb161, 3, none⟩ = some (.int .i64 0) := (blk_cell BK161.out 3).trans rfl; have hfz8_0 := blk_frozen BK161.out 0; have hfz8_1 := blk_frozen BK161.out 1; have hfz8_2 := blk_frozen BK161.out 2; have hfz8_3 := blk_frozen BK161.out 3) | ((with_reducible refine gate_callee (f := 16) rfl ?_); refine goesL_ (some 15) rfl rfl Try.func16 (by kernel_rfl) rfl #[.int .u64 a1] rfl (by (try simp only [List.map_toArray, List.map_cons, List.map_nil]); first | done | rfl | (simp only [List.length_drop, List.length_take]; rfl)) ?_; (with_reducible refine (spec_PartsOfNumber.calls k a1 t162 t163 t164 t165 _ A4.out).mono ?_); rintro e w9 ⟨rfl, hb⟩; refine ⟨_, rfl, ?_⟩; have n0_ := Aside0.mk (blk_below (g := gb161) (o := .cells #[.int .i64 t157, .bool t158, .int .u64 t159, .int .i64 t160] 34 (0, 0)) (by (with_reducible repeat (first | refine blk_drewN ?_ _ | refine blk_drew ?_ | refine blk_alloc ?_ _)); refine blk_put (cs := #[.int .i64 t157, .bool t158, .int .u64 t159, .int .i64 0]) ?_ 3 _ rfl; (with_reducible repeat (first | refine blk_drewN ?_ _ | refine blk_drew ?_ | refine blk_alloc ?_ _)); refine blk_put (cs := #[.int .i64 t157, .bool t158, .int .u64 0, .int .i64 0]) ?_ 2 _ rfl; (with_reducible repeat (first | refine blk_drewN ?_ _ | refine blk_drew ?_ | refine blk_alloc ?_ _)); refine blk_put (cs := #[.int .i64 t157, .bool false, .int .u64 0, .int .i64 0]) ?_ 1 _ rfl; (with_reducible repeat (first | refine blk_drewN ?_ _ | refine blk_drew ?_ | refine blk_alloc ?_ _)); refine blk_put (cs := #[.int .i64 0, .bool false, .int .u64 0, .int .i64 0]) ?_ 0 _ rfl; (with_reducible repeat (first | refine blk_drewN ?_ _ | refine blk_drew ?_ | refine blk_alloc ?_ _)); exact BK161.out) hb); have n1_ := Aside0.mk (below_step (by repeat (first | (with_reducible first | exact HB.out | apply below_alloc | apply pw_below_drewN | apply below_drew1 | refine below_set ?_ GE161.out) | exact HB.out)) hb); clear BK161; clear HB; have BK161 := n0_; have HB := n1_; clear n0_ n1_; (try clear hb); (try clear hb2); (try clear hk); (try clear hi)) | ((with_reducible refine gate_dst (N := 6) rfl ?_); refine box_event ?hg (N := 6) ?hd (cs := #[.int .i64 0, .bool false, .int .u64 0, .int .i64 0]) (t := 34) ?hr ?_; (case hd => rfl); (case hg => rfl); (case hr => first | (go_simp; done) | (go_simp; rfl)); intro gb166 hg w10 hbox hb; have n0_ := Aside0.mk (blk_below (g := gb161) (o := .cells #[.int .i64 t157, .bool t158, .int .u64 t159, .int .i64 t160] 34 (0, 0)) (by (with_reducible repeat (first | refine blk_drewN ?_ _ | refine blk_drew ?_ | refine blk_alloc ?_ _)); exact BK161.out) hb); have n1_ := Aside0.mk (below_step (by repeat (first | (with_reducible first | exact HB.out | apply below_alloc | apply pw_below_drewN | apply below_drew1 | refine below_set ?_ GE161.out) | exact HB.out)) hb); have n2_ := Aside0.mk (hbox); have n3_ := Aside0.mk ((by rw [hg]; exact (below_size (by repeat (first | (with_reducible first | exact HB.out | apply below_alloc | apply pw_below_drewN | apply below_drew1 | refine below_set ?_ GE161.out) | exact HB.out))) : w.heap.size ≤ gb166)); have n4_ := Aside0.mk ((by rw [hg]; exact (below_size (by repeat (first | (with_reducible first | exact HB.out | apply below_alloc | apply pw_below_drewN | apply below_drew1 | refine below_set ?_ GE161.out) | exact HB.out))) : w.heap.size ≤ gb166)); have n5_ := Aside0.mk ((by rw [hg]; exact Nat.ne_of_lt (blk_lt (g := gb161) (o := .cells #[.int .i64 t157, .bool t158, .int .u64 t159, .int .i64 t160] 34 (0, 0)) (by (with_reducible repeat (first | refine blk_drewN ?_ _ | refine blk_drew ?_ | refine blk_alloc ?_ _)); exact BK161.out)) : gb161 ≠ gb166)); have n6_ := Aside0.mk ((by rw [hg]; exact Nat.ne_of_gt (blk_lt (g := gb161) (o := .cells #[.int .i64 t157, .bool t158, .int .u64 t159, .int .i64 t160] 34 (0, 0)) (by (with_reducible repeat (first | refine blk_drewN ?_ _ | refine blk_drew ?_ | refine blk_alloc ?_ _)); exact BK161.out)) : gb166 ≠ gb161)); clear BK161; clear HB; have BK161 := n0_; have HB := n1_; have BK166 := n2_; have GW166 := n3_; have GE166 := n4_; have NB161_166 := n5_; have NB166_161 := n6_; clear n0_ n1_ n2_ n3_ n4_ n5_ n6_; clear hb hbox hg; have hnb11 := NB166_161.out; have hnc11 := NB161_166.out; have hcz12_0 : w10.cell? ⟨gb166, 0, none⟩ = some (.int .i64 0) := (blk_cell BK166.out 0).trans rfl; have hcz12_1 : w10.cell? ⟨gb166, 1, none⟩ = some (.bool false) := (blk_cell BK166.out 1).trans rfl; have hcz12_2 : w10.cell? ⟨gb166, 2, none⟩ = some (.int .u64 0) := (blk_cell BK166.out 2).trans rfl; have hcz12_3 : w10.cell? ⟨gb166, 3, none⟩ = some (.int .i64 0) := (blk_cell BK166.out 3).trans rfl; have hfz12_0 := blk_frozen BK166.out 0; have hfz12_1 := blk_frozen BK166.out 1; have hfz12_2 := blk_frozen BK166.out 2; have hfz12_3 := blk_frozen BK166.out 3; have hcz13_0 : w10.cell? ⟨gb161, 0, none⟩ = some (.int .i64 t157) := (blk_cell BK161.out 0).trans rfl; have hcz13_1 : w10.cell? ⟨gb161, 1, none⟩ = some (.bool t158) := (blk_cell BK161.out 1).trans rfl; have hcz13_2 : w10.cell? ⟨gb161, 2, none⟩ = some (.int .u64 t159) := (blk_cell BK161.out 2).trans rfl; have hcz13_3 : w10.cell? ⟨gb161, 3, none⟩ = some (.int .i64 t160) := (blk_cell BK161.out 3).trans rfl; have hfz13_0 := blk_frozen BK161.out 0; have hfz13_1 := blk_frozen BK161.out 1; have hfz13_2 := blk_frozen BK161.out 2; have hfz13_3 := blk_frozen BK161.out 3))
  (try simp only [Act.put, List.setIfInBounds_toArray, List.set_cons_zero, List.set_cons_succ])
  go_cut [48] (fun v48 wc => ∃ (kq : Nat) (x48_4 : Bool), v48 = .bool x48_4 ∧ Aside0 (spec_Mul.j0 kq (t158 != t163) x48_4 t157 t158 t159 t160 t162 t163 t164 t165 = some r) ∧ Aside0 (kq ≤ k) ∧ Aside0 (wc.heap[gb161]? = some (.cells #[.int .i64 t157, .bool t158, .int .u64 t159, .int .i64 t160] 34 (0, 0))) ∧ Aside0 (wc.heap[gb166]? = some (.cells #[.int .i64 t162, .bool t163, .int .u64 t164, .int .i64 t165] 34 (0, 0))) ∧ Aside0 (Below w.heap.size w wc))
  case first =>
    have H := HC5.out
    clear HC5
    by_cases c14 : t157 = 1
    · rw [if_pos c14] at H
      have c14b0 : (t157 == 1) = true := beq_iff_eq.mpr c14
      have c14b1 : (t157 != 1) = false := bne_eq_false_iff_eq.mpr c14
      clear c14
      (first | rw [c14b0] | (simp only [i64_w, i32_w]; rw [c14b0]) | skip)
      have H' := Aside0.mk H
      clear H
      have hnb15 := NB161_166.out
      have hnc15 := NB166_161.out
      have hcz16_0 : w10.cell? ⟨gb161, 0, none⟩ = some (.int .i64 t157) := (blk_cell BK161.out 0).trans rfl
      have hcz16_1 : w10.cell? ⟨gb161, 1, none⟩ = some (.bool t158) := (blk_cell BK161.out 1).trans rfl
      have hcz16_2 : w10.cell? ⟨gb161, 2, none⟩ = some (.int .u64 t159) := (blk_cell BK161.out 2).trans rfl
      have hcz16_3 : w10.cell? ⟨gb161, 3, none⟩ = some (.int .i64 t160) := (blk_cell BK161.out 3).trans rfl
      have hfz16_0 := blk_frozen BK161.out 0
      have hfz16_1 := blk_frozen BK161.out 1
      have hfz16_2 := blk_frozen BK161.out 2
      have hfz16_3 := blk_frozen BK161.out 3
      go_wp2
      go_meet
      case rel => exact ⟨_, (true), (by first | rfl | (simp; done) | (simp [*]; done)), H', ⟨by first | omega | exact Nat.le_refl _⟩, ⟨by (with_reducible repeat (first | refine blk_drewN ?_ _ | refine blk_drew ?_ | refine blk_alloc ?_ _)); refine blk_far ?_ NB161_166.out _; (with_reducible repeat (first | refine blk_drewN ?_ _ | refine blk_drew ?_ | refine blk_alloc ?_ _)); refine blk_far ?_ NB161_166.out _; (with_reducible repeat (first | refine blk_drewN ?_ _ | refine blk_drew ?_ | refine blk_alloc ?_ _)); refine blk_far ?_ NB161_166.out _; (with_reducible repeat (first | refine blk_drewN ?_ _ | refine blk_drew ?_ | refine blk_alloc ?_ _)); refine blk_far ?_ NB161_166.out _; (with_reducible repeat (first | refine blk_drewN ?_ _ | refine blk_drew ?_ | refine blk_alloc ?_ _)); exact BK161.out⟩, ⟨by (with_reducible repeat (first | refine blk_drewN ?_ _ | refine blk_drew ?_ | refine blk_alloc ?_ _)); refine blk_put (cs := #[.int .i64 t162, .bool t163, .int .u64 t164, .int .i64 0]) ?_ 3 _ rfl; (with_reducible repeat (first | refine blk_drewN ?_ _ | refine blk_drew ?_ | refine blk_alloc ?_ _)); refine blk_put (cs := #[.int .i64 t162, .bool t163, .int .u64 0, .int .i64 0]) ?_ 2 _ rfl; (with_reducible repeat (first | refine blk_drewN ?_ _ | refine blk_drew ?_ | refine blk_alloc ?_ _)); refine blk_put (cs := #[.int .i64 t162, .bool false, .int .u64 0, .int .i64 0]) ?_ 1 _ rfl; (with_reducible repeat (first | refine blk_drewN ?_ _ | refine blk_drew ?_ | refine blk_alloc ?_ _)); refine blk_put (cs := #[.int .i64 0, .bool false, .int .u64 0, .int .i64 0]) ?_ 0 _ rfl; (with_reducible repeat (first | refine blk_drewN ?_ _ | refine blk_drew ?_ | refine blk_alloc ?_ _)); exact BK166.out⟩, ⟨by repeat (first | (with_reducible first | exact HB.out | apply below_alloc | apply pw_below_drewN | apply below_drew1 | refine below_set ?_ GE161.out | refine below_set ?_ GE166.out) | exact HB.out)⟩⟩
    · rw [if_neg c14] at H
      have c14b0 : (t157 == 1) = false := beq_eq_false_iff_ne.mpr c14
      have c14b1 : (t157 != 1) = true := bne_iff_ne.mpr c14
      (first | rw [c14b0] | (simp only [i64_w, i32_w]; rw [c14b0]) | skip)
      by_cases c17 : t162 = 1
      · rw [if_pos c17] at H
        have c17b0 : (t162 == 1) = true := beq_iff_eq.mpr c17
        have c17b1 : (t162 != 1) = false := bne_eq_false_iff_eq.mpr c17
        clear c17
        have H' := Aside0.mk H
        clear H
        have hnb18 := NB161_166.out
        have hnc18 := NB166_161.out
        have hcz19_0 : w10.cell? ⟨gb161, 0, none⟩ = some (.int .i64 t157) := (blk_cell BK161.out 0).trans rfl
        have hcz19_1 : w10.cell? ⟨gb161, 1, none⟩ = some (.bool t158) := (blk_cell BK161.out 1).trans rfl
        have hcz19_2 : w10.cell? ⟨gb161, 2, none⟩ = some (.int .u64 t159) := (blk_cell BK161.out 2).trans rfl
        have hcz19_3 : w10.cell? ⟨gb161, 3, none⟩ = some (.int .i64 t160) := (blk_cell BK161.out 3).trans rfl
        have hfz19_0 := blk_frozen BK161.out 0
        have hfz19_1 := blk_frozen BK161.out 1
        have hfz19_2 := blk_frozen BK161.out 2
        have hfz19_3 := blk_frozen BK161.out 3
        have hcz20_0 : w10.cell? ⟨gb166, 0, none⟩ = some (.int .i64 0) := (blk_cell BK166.out 0).trans rfl
        have hcz20_1 : w10.cell? ⟨gb166, 1, none⟩ = some (.bool false) := (blk_cell BK166.out 1).trans rfl
        have hcz20_2 : w10.cell? ⟨gb166, 2, none⟩ = some (.int .u64 0) := (blk_cell BK166.out 2).trans rfl
        have hcz20_3 : w10.cell? ⟨gb166, 3, none⟩ = some (.int .i64 0) := (blk_cell BK166.out 3).trans rfl
        have hfz20_0 := blk_frozen BK166.out 0
        have hfz20_1 := blk_frozen BK166.out 1
        have hfz20_2 := blk_frozen BK166.out 2
        have hfz20_3 := blk_frozen BK166.out 3
        go_wp2
        go_meet
        case rel => exact ⟨_, (true), (by first | rfl | (simp; done) | (simp [*]; done)), H', ⟨by first | omega | exact Nat.le_refl _⟩, ⟨by (with_reducible repeat (first | refine blk_drewN ?_ _ | refine blk_drew ?_ | refine blk_alloc ?_ _)); refine blk_far ?_ NB161_166.out _; (with_reducible repeat (first | refine blk_drewN ?_ _ | refine blk_drew ?_ | refine blk_alloc ?_ _)); refine blk_far ?_ NB161_166.out _; (with_reducible repeat (first | refine blk_drewN ?_ _ | refine blk_drew ?_ | refine blk_alloc ?_ _)); refine blk_far ?_ NB161_166.out _; (with_reducible repeat (first | refine blk_drewN ?_ _ | refine blk_drew ?_ | refine blk_alloc ?_ _)); refine blk_far ?_ NB161_166.out _; (with_reducible repeat (first | refine blk_drewN ?_ _ | refine blk_drew ?_ | refine blk_alloc ?_ _)); exact BK161.out⟩, ⟨by (with_reducible repeat (first | refine blk_drewN ?_ _ | refine blk_drew ?_ | refine blk_alloc ?_ _)); refine blk_put (cs := #[.int .i64 t162, .bool t163, .int .u64 t164, .int .i64 0]) ?_ 3 _ rfl; (with_reducible repeat (first | refine blk_drewN ?_ _ | refine blk_drew ?_ | refine blk_alloc ?_ _)); refine blk_put (cs := #[.int .i64 t162, .bool t163, .int .u64 0, .int .i64 0]) ?_ 2 _ rfl; (with_reducible repeat (first | refine blk_drewN ?_ _ | refine blk_drew ?_ | refine blk_alloc ?_ _)); refine blk_put (cs := #[.int .i64 t162, .bool false, .int .u64 0, .int .i64 0]) ?_ 1 _ rfl; (with_reducible repeat (first | refine blk_drewN ?_ _ | refine blk_drew ?_ | refine blk_alloc ?_ _)); refine blk_put (cs := #[.int .i64 0, .bool false, .int .u64 0, .int .i64 0]) ?_ 0 _ rfl; (with_reducible repeat (first | refine blk_drewN ?_ _ | refine blk_drew ?_ | refine blk_alloc ?_ _)); exact BK166.out⟩, ⟨by repeat (first | (with_reducible first | exact HB.out | apply below_alloc | apply pw_below_drewN | apply below_drew1 | refine below_set ?_ GE161.out | refine below_set ?_ GE166.out) | exact HB.out)⟩⟩
      · rw [if_neg c17] at H
        have c17b0 : (t162 == 1) = false := beq_eq_false_iff_ne.mpr c17
        have c17b1 : (t162 != 1) = true := bne_iff_ne.mpr c17
        by_cases c21 : t157 = 2
        · rw [if_pos c21] at H
          have c21b0 : (t157 == 2) = true := beq_iff_eq.mpr c21
          have c21b1 : (t157 != 2) = false := bne_eq_false_iff_eq.mpr c21
          clear c21
          by_cases c22 : t162 = 3
          · rw [if_pos c22] at H
            have c22b0 : (t162 == 3) = true := beq_iff_eq.mpr c22
            have c22b1 : (t162 != 3) = false := bne_eq_false_iff_eq.mpr c22
            clear c22
            have H' := Aside0.mk H
            clear H
            have hnb23 := NB161_166.out
            have hnc23 := NB166_161.out
            have hcz24_0 : w10.cell? ⟨gb161, 0, none⟩ = some (.int .i64 t157) := (blk_cell BK161.out 0).trans rfl
            have hcz24_1 : w10.cell? ⟨gb161, 1, none⟩ = some (.bool t158) := (blk_cell BK161.out 1).trans rfl
            have hcz24_2 : w10.cell? ⟨gb161, 2, none⟩ = some (.int .u64 t159) := (blk_cell BK161.out 2).trans rfl
            have hcz24_3 : w10.cell? ⟨gb161, 3, none⟩ = some (.int .i64 t160) := (blk_cell BK161.out 3).trans rfl
            have hfz24_0 := blk_frozen BK161.out 0
            have hfz24_1 := blk_frozen BK161.out 1
            have hfz24_2 := blk_frozen BK161.out 2
            have hfz24_3 := blk_frozen BK161.out 3
            have hcz25_0 : w10.cell? ⟨gb166, 0, none⟩ = some (.int .i64 0) := (blk_cell BK166.out 0).trans rfl
            have hcz25_1 : w10.cell? ⟨gb166, 1, none⟩ = some (.bool false) := (blk_cell BK166.out 1).trans rfl
            have hcz25_2 : w10.cell? ⟨gb166, 2, none⟩ = some (.int .u64 0) := (blk_cell BK166.out 2).trans rfl
            have hcz25_3 : w10.cell? ⟨gb166, 3, none⟩ = some (.int .i64 0) := (blk_cell BK166.out 3).trans rfl
            have hfz25_0 := blk_frozen BK166.out 0
            have hfz25_1 := blk_frozen BK166.out 1
            have hfz25_2 := blk_frozen BK166.out 2
            have hfz25_3 := blk_frozen BK166.out 3
            go_wp2
            go_meet
            case rel => exact ⟨_, (true), (by first | rfl | (simp; done) | (simp [*]; done)), H', ⟨by first | omega | exact Nat.le_refl _⟩, ⟨by (with_reducible repeat (first | refine blk_drewN ?_ _ | refine blk_drew ?_ | refine blk_alloc ?_ _)); refine blk_far ?_ NB161_166.out _; (with_reducible repeat (first | refine blk_drewN ?_ _ | refine blk_drew ?_ | refine blk_alloc ?_ _)); refine blk_far ?_ NB161_166.out _; (with_reducible repeat (first | refine blk_drewN ?_ _ | refine blk_drew ?_ | refine blk_alloc ?_ _)); refine blk_far ?_ NB161_166.out _; (with_reducible repeat (first | refine blk_drewN ?_ _ | refine blk_drew ?_ | refine blk_alloc ?_ _)); refine blk_far ?_ NB161_166.out _; (with_reducible repeat (first | refine blk_drewN ?_ _ | refine blk_drew ?_ | refine blk_alloc ?_ _)); exact BK161.out⟩, ⟨by (with_reducible repeat (first | refine blk_drewN ?_ _ | refine blk_drew ?_ | refine blk_alloc ?_ _)); refine blk_put (cs := #[.int .i64 t162, .bool t163, .int .u64 t164, .int .i64 0]) ?_ 3 _ rfl; (with_reducible repeat (first | refine blk_drewN ?_ _ | refine blk_drew ?_ | refine blk_alloc ?_ _)); refine blk_put (cs := #[.int .i64 t162, .bool t163, .int .u64 0, .int .i64 0]) ?_ 2 _ rfl; (with_reducible repeat (first | refine blk_drewN ?_ _ | refine blk_drew ?_ | refine blk_alloc ?_ _)); refine blk_put (cs := #[.int .i64 t162, .bool false, .int .u64 0, .int .i64 0]) ?_ 1 _ rfl; (with_reducible repeat (first | refine blk_drewN ?_ _ | refine blk_drew ?_ | refine blk_alloc ?_ _)); refine blk_put (cs := #[.int .i64 0, .bool false, .int .u64 0, .int .i64 0]) ?_ 0 _ rfl; (with_reducible repeat (first | refine blk_drewN ?_ _ | refine blk_drew ?_ | refine blk_alloc ?_ _)); exact BK166.out⟩, ⟨by repeat (first | (with_reducible first | exact HB.out | apply below_alloc | apply pw_below_drewN | apply below_drew1 | refine below_set ?_ GE161.out | refine below_set ?_ GE166.out) | exact HB.out)⟩⟩
          · rw [if_neg c22] at H
            have c22b0 : (t162 == 3) = false := beq_eq_false_iff_ne.mpr c22
            have c22b1 : (t162 != 3) = true := bne_iff_ne.mpr c22
            by_cases c26 : t157 = 3
            · rw [if_pos c26] at H
              have c26b0 : (t157 == 3) = true := beq_iff_eq.mpr c26
              have c26b1 : (t157 != 3) = false := bne_eq_false_iff_eq.mpr c26
              clear c26
              have H' := Aside0.mk H
              clear H
              have hnb27 := NB161_166.out
              have hnc27 := NB166_161.out
              have hcz28_0 : w10.cell? ⟨gb161, 0, none⟩ = some (.int .i64 t157) := (blk_cell BK161.out 0).trans rfl
              have hcz28_1 : w10.cell? ⟨gb161, 1, none⟩ = some (.bool t158) := (blk_cell BK161.out 1).trans rfl
              have hcz28_2 : w10.cell? ⟨gb161, 2, none⟩ = some (.int .u64 t159) := (blk_cell BK161.out 2).trans rfl
              have hcz28_3 : w10.cell? ⟨gb161, 3, none⟩ = some (.int .i64 t160) := (blk_cell BK161.out 3).trans rfl
              have hfz28_0 := blk_frozen BK161.out 0
              have hfz28_1 := blk_frozen BK161.out 1
              have hfz28_2 := blk_frozen BK161.out 2
              have hfz28_3 := blk_frozen BK161.out 3
              have hcz29_0 : w10.cell? ⟨gb166, 0, none⟩ = some (.int .i64 0) := (blk_cell BK166.out 0).trans rfl
              have hcz29_1 : w10.cell? ⟨gb166, 1, none⟩ = some (.bool false) := (blk_cell BK166.out 1).trans rfl
              have hcz29_2 : w10.cell? ⟨gb166, 2, none⟩ = some (.int .u64 0) := (blk_cell BK166.out 2).trans rfl
              have hcz29_3 : w10.cell? ⟨gb166, 3, none⟩ = some (.int .i64 0) := (blk_cell BK166.out 3).trans rfl
              have hfz29_0 := blk_frozen BK166.out 0
              have hfz29_1 := blk_frozen BK166.out 1
              have hfz29_2 := blk_frozen BK166.out 2
              have hfz29_3 := blk_frozen BK166.out 3
              go_wp2
              go_meet
              case rel => exact ⟨_, ((t162 == 2)), (by first | rfl | (simp; done) | (simp [*]; done)), H', ⟨by first | omega | exact Nat.le_refl _⟩, ⟨by (with_reducible repeat (first | refine blk_drewN ?_ _ | refine blk_drew ?_ | refine blk_alloc ?_ _)); refine blk_far ?_ NB161_166.out _; (with_reducible repeat (first | refine blk_drewN ?_ _ | refine blk_drew ?_ | refine blk_alloc ?_ _)); refine blk_far ?_ NB161_166.out _; (with_reducible repeat (first | refine blk_drewN ?_ _ | refine blk_drew ?_ | refine blk_alloc ?_ _)); refine blk_far ?_ NB161_166.out _; (with_reducible repeat (first | refine blk_drewN ?_ _ | refine blk_drew ?_ | refine blk_alloc ?_ _)); refine blk_far ?_ NB161_166.out _; (with_reducible repeat (first | refine blk_drewN ?_ _ | refine blk_drew ?_ | refine blk_alloc ?_ _)); exact BK161.out⟩, ⟨by (with_reducible repeat (first | refine blk_drewN ?_ _ | refine blk_drew ?_ | refine blk_alloc ?_ _)); refine blk_put (cs := #[.int .i64 t162, .bool t163, .int .u64 t164, .int .i64 0]) ?_ 3 _ rfl; (with_reducible repeat (first | refine blk_drewN ?_ _ | refine blk_drew ?_ | refine blk_alloc ?_ _)); refine blk_put (cs := #[.int .i64 t162, .bool t163, .int .u64 0, .int .i64 0]) ?_ 2 _ rfl; (with_reducible repeat (first | refine blk_drewN ?_ _ | refine blk_drew ?_ | refine blk_alloc ?_ _)); refine blk_put (cs := #[.int .i64 t162, .bool false, .int .u64 0, .int .i64 0]) ?_ 1 _ rfl; (with_reducible repeat (first | refine blk_drewN ?_ _ | refine blk_drew ?_ | refine blk_alloc ?_ _)); refine blk_put (cs := #[.int .i64 0, .bool false, .int .u64 0, .int .i64 0]) ?_ 0 _ rfl; (with_reducible repeat (first | refine blk_drewN ?_ _ | refine blk_drew ?_ | refine blk_alloc ?_ _)); exact BK166.out⟩, ⟨by repeat (first | (with_reducible first | exact HB.out | apply below_alloc | apply pw_below_drewN | apply below_drew1 | refine below_set ?_ GE161.out | refine below_set ?_ GE166.out) | exact HB.out)⟩⟩
            · rw [if_neg c26] at H
              have c26b0 : (t157 == 3) = false := beq_eq_false_iff_ne.mpr c26
              have c26b1 : (t157 != 3) = true := bne_iff_ne.mpr c26
              have H' := Aside0.mk H
              clear H
              have hnb30 := NB161_166.out
              have hnc30 := NB166_161.out
              have hcz31_0 : w10.cell? ⟨gb161, 0, none⟩ = some (.int .i64 t157) := (blk_cell BK161.out 0).trans rfl
              have hcz31_1 : w10.cell? ⟨gb161, 1, none⟩ = some (.bool t158) := (blk_cell BK161.out 1).trans rfl
              have hcz31_2 : w10.cell? ⟨gb161, 2, none⟩ = some (.int .u64 t159) := (blk_cell BK161.out 2).trans rfl
              have hcz31_3 : w10.cell? ⟨gb161, 3, none⟩ = some (.int .i64 t160) := (blk_cell BK161.out 3).trans rfl
              have hfz31_0 := blk_frozen BK161.out 0
              have hfz31_1 := blk_frozen BK161.out 1
              have hfz31_2 := blk_frozen BK161.out 2
              have hfz31_3 := blk_frozen BK161.out 3
              have hcz32_0 : w10.cell? ⟨gb166, 0, none⟩ = some (.int .i64 0) := (blk_cell BK166.out 0).trans rfl
              have hcz32_1 : w10.cell? ⟨gb166, 1, none⟩ = some (.bool false) := (blk_cell BK166.out 1).trans rfl
              have hcz32_2 : w10.cell? ⟨gb166, 2, none⟩ = some (.int .u64 0) := (blk_cell BK166.out 2).trans rfl
              have hcz32_3 : w10.cell? ⟨gb166, 3, none⟩ = some (.int .i64 0) := (blk_cell BK166.out 3).trans rfl
              have hfz32_0 := blk_frozen BK166.out 0
              have hfz32_1 := blk_frozen BK166.out 1
              have hfz32_2 := blk_frozen BK166.out 2
              have hfz32_3 := blk_frozen BK166.out 3
              go_wp2
              go_meet
              case rel => exact ⟨_, (false), (by first | rfl | (simp; done) | (simp [*]; done)), H', ⟨by first | omega | exact Nat.le_refl _⟩, ⟨by (with_reducible repeat (first | refine blk_drewN ?_ _ | refine blk_drew ?_ | refine blk_alloc ?_ _)); refine blk_far ?_ NB161_166.out _; (with_reducible repeat (first | refine blk_drewN ?_ _ | refine blk_drew ?_ | refine blk_alloc ?_ _)); refine blk_far ?_ NB161_166.out _; (with_reducible repeat (first | refine blk_drewN ?_ _ | refine blk_drew ?_ | refine blk_alloc ?_ _)); refine blk_far ?_ NB161_166.out _; (with_reducible repeat (first | refine blk_drewN ?_ _ | refine blk_drew ?_ | refine blk_alloc ?_ _)); refine blk_far ?_ NB161_166.out _; (with_reducible repeat (first | refine blk_drewN ?_ _ | refine blk_drew ?_ | refine blk_alloc ?_ _)); exact BK161.out⟩, ⟨by (with_reducible repeat (first | refine blk_drewN ?_ _ | refine blk_drew ?_ | refine blk_alloc ?_ _)); refine blk_put (cs := #[.int .i64 t162, .bool t163, .int .u64 t164, .int .i64 0]) ?_ 3 _ rfl; (with_reducible repeat (first | refine blk_drewN ?_ _ | refine blk_drew ?_ | refine blk_alloc ?_ _)); refine blk_put (cs := #[.int .i64 t162, .bool t163, .int .u64 0, .int .i64 0]) ?_ 2 _ rfl; (with_reducible repeat (first | refine blk_drewN ?_ _ | refine blk_drew ?_ | refine blk_alloc ?_ _)); refine blk_put (cs := #[.int .i64 t162, .bool false, .int .u64 0, .int .i64 0]) ?_ 1 _ rfl; (with_reducible repeat (first | refine blk_drewN ?_ _ | refine blk_drew ?_ | refine blk_alloc ?_ _)); refine blk_put (cs := #[.int .i64 0, .bool false, .int .u64 0, .int .i64 0]) ?_ 0 _ rfl; (with_reducible repeat (first | refine blk_drewN ?_ _ | refine blk_drew ?_ | refine blk_alloc ?_ _)); exact BK166.out⟩, ⟨by repeat (first | (with_reducible first | exact HB.out | apply below_alloc | apply pw_below_drewN | apply below_drew1 | refine below_set ?_ GE161.out | refine below_set ?_ GE166.out) | exact HB.out)⟩⟩
        · rw [if_neg c21] at H
          have c21b0 : (t157 == 2) = false := beq_eq_false_iff_ne.mpr c21
          have c21b1 : (t157 != 2) = true := bne_iff_ne.mpr c21
          by_cases c33 : t157 = 3
          · rw [if_pos c33] at H
            have c33b0 : (t157 == 3) = true := beq_iff_eq.mpr c33
            have c33b1 : (t157 != 3) = false := bne_eq_false_iff_eq.mpr c33
            clear c33
            have H' := Aside0.mk H
            clear H
            have hnb34 := NB161_166.out
            have hnc34 := NB166_161.out
            have hcz35_0 : w10.cell? ⟨gb161, 0, none⟩ = some (.int .i64 t157) := (blk_cell BK161.out 0).trans rfl
            have hcz35_1 : w10.cell? ⟨gb161, 1, none⟩ = some (.bool t158) := (blk_cell BK161.out 1).trans rfl
            have hcz35_2 : w10.cell? ⟨gb161, 2, none⟩ = some (.int .u64 t159) := (blk_cell BK161.out 2).trans rfl
            have hcz35_3 : w10.cell? ⟨gb161, 3, none⟩ = some (.int .i64 t160) := (blk_cell BK161.out 3).trans rfl
            have hfz35_0 := blk_frozen BK161.out 0
            have hfz35_1 := blk_frozen BK161.out 1
            have hfz35_2 := blk_frozen BK161.out 2
            have hfz35_3 := blk_frozen BK161.out 3
            have hcz36_0 : w10.cell? ⟨gb166, 0, none⟩ = some (.int .i64 0) := (blk_cell BK166.out 0).trans rfl
            have hcz36_1 : w10.cell? ⟨gb166, 1, none⟩ = some (.bool false) := (blk_cell BK166.out 1).trans rfl
            have hcz36_2 : w10.cell? ⟨gb166, 2, none⟩ = some (.int .u64 0) := (blk_cell BK166.out 2).trans rfl
            have hcz36_3 : w10.cell? ⟨gb166, 3, none⟩ = some (.int .i64 0) := (blk_cell BK166.out 3).trans rfl
            have hfz36_0 := blk_frozen BK166.out 0
            have hfz36_1 := blk_frozen BK166.out 1
            have hfz36_2 := blk_frozen BK166.out 2
            have hfz36_3 := blk_frozen BK166.out 3
            go_wp2
            go_meet
            case rel => exact ⟨_, ((t162 == 2)), (by first | rfl | (simp; done) | (simp [*]; done)), H', ⟨by first | omega | exact Nat.le_refl _⟩, ⟨by (with_reducible repeat (first | refine blk_drewN ?_ _ | refine blk_drew ?_ | refine blk_alloc ?_ _)); refine blk_far ?_ NB161_166.out _; (with_reducible repeat (first | refine blk_drewN ?_ _ | refine blk_drew ?_ | refine blk_alloc ?_ _)); refine blk_far ?_ NB161_166.out _; (with_reducible repeat (first | refine blk_drewN ?_ _ | refine blk_drew ?_ | refine blk_alloc ?_ _)); refine blk_far ?_ NB161_166.out _; (with_reducible repeat (first | refine blk_drewN ?_ _ | refine blk_drew ?_ | refine blk_alloc ?_ _)); refine blk_far ?_ NB161_166.out _; (with_reducible repeat (first | refine blk_drewN ?_ _ | refine blk_drew ?_ | refine blk_alloc ?_ _)); exact BK161.out⟩, ⟨by (with_reducible repeat (first | refine blk_drewN ?_ _ | refine blk_drew ?_ | refine blk_alloc ?_ _)); refine blk_put (cs := #[.int .i64 t162, .bool t163, .int .u64 t164, .int .i64 0]) ?_ 3 _ rfl; (with_reducible repeat (first | refine blk_drewN ?_ _ | refine blk_drew ?_ | refine blk_alloc ?_ _)); refine blk_put (cs := #[.int .i64 t162, .bool t163, .int .u64 0, .int .i64 0]) ?_ 2 _ rfl; (with_reducible repeat (first | refine blk_drewN ?_ _ | refine blk_drew ?_ | refine blk_alloc ?_ _)); refine blk_put (cs := #[.int .i64 t162, .bool false, .int .u64 0, .int .i64 0]) ?_ 1 _ rfl; (with_reducible repeat (first | refine blk_drewN ?_ _ | refine blk_drew ?_ | refine blk_alloc ?_ _)); refine blk_put (cs := #[.int .i64 0, .bool false, .int .u64 0, .int .i64 0]) ?_ 0 _ rfl; (with_reducible repeat (first | refine blk_drewN ?_ _ | refine blk_drew ?_ | refine blk_alloc ?_ _)); exact BK166.out⟩, ⟨by repeat (first | (with_reducible first | exact HB.out | apply below_alloc | apply pw_below_drewN | apply below_drew1 | refine below_set ?_ GE161.out | refine below_set ?_ GE166.out) | exact HB.out)⟩⟩
          · rw [if_neg c33] at H
            have c33b0 : (t157 == 3) = false := beq_eq_false_iff_ne.mpr c33
            have c33b1 : (t157 != 3) = true := bne_iff_ne.mpr c33
            have H' := Aside0.mk H
            clear H
            have hnb37 := NB161_166.out
            have hnc37 := NB166_161.out
            have hcz38_0 : w10.cell? ⟨gb161, 0, none⟩ = some (.int .i64 t157) := (blk_cell BK161.out 0).trans rfl
            have hcz38_1 : w10.cell? ⟨gb161, 1, none⟩ = some (.bool t158) := (blk_cell BK161.out 1).trans rfl
            have hcz38_2 : w10.cell? ⟨gb161, 2, none⟩ = some (.int .u64 t159) := (blk_cell BK161.out 2).trans rfl
            have hcz38_3 : w10.cell? ⟨gb161, 3, none⟩ = some (.int .i64 t160) := (blk_cell BK161.out 3).trans rfl
            have hfz38_0 := blk_frozen BK161.out 0
            have hfz38_1 := blk_frozen BK161.out 1
            have hfz38_2 := blk_frozen BK161.out 2
            have hfz38_3 := blk_frozen BK161.out 3
            have hcz39_0 : w10.cell? ⟨gb166, 0, none⟩ = some (.int .i64 0) := (blk_cell BK166.out 0).trans rfl
            have hcz39_1 : w10.cell? ⟨gb166, 1, none⟩ = some (.bool false) := (blk_cell BK166.out 1).trans rfl
            have hcz39_2 : w10.cell? ⟨gb166, 2, none⟩ = some (.int .u64 0) := (blk_cell BK166.out 2).trans rfl
            have hcz39_3 : w10.cell? ⟨gb166, 3, none⟩ = some (.int .i64 0) := (blk_cell BK166.out 3).trans rfl
            have hfz39_0 := blk_frozen BK166.out 0
            have hfz39_1 := blk_frozen BK166.out 1
            have hfz39_2 := blk_frozen BK166.out 2
            have hfz39_3 := blk_frozen BK166.out 3
            go_wp2
            go_meet
            case rel => exact ⟨_, (false), (by first | rfl | (simp; done) | (simp [*]; done)), H', ⟨by first | omega | exact Nat.le_refl _⟩, ⟨by (with_reducible repeat (first | refine blk_drewN ?_ _ | refine blk_drew ?_ | refine blk_alloc ?_ _)); refine blk_far ?_ NB161_166.out _; (with_reducible repeat (first | refine blk_drewN ?_ _ | refine blk_drew ?_ | refine blk_alloc ?_ _)); refine blk_far ?_ NB161_166.out _; (with_reducible repeat (first | refine blk_drewN ?_ _ | refine blk_drew ?_ | refine blk_alloc ?_ _)); refine blk_far ?_ NB161_166.out _; (with_reducible repeat (first | refine blk_drewN ?_ _ | refine blk_drew ?_ | refine blk_alloc ?_ _)); refine blk_far ?_ NB161_166.out _; (with_reducible repeat (first | refine blk_drewN ?_ _ | refine blk_drew ?_ | refine blk_alloc ?_ _)); exact BK161.out⟩, ⟨by (with_reducible repeat (first | refine blk_drewN ?_ _ | refine blk_drew ?_ | refine blk_alloc ?_ _)); refine blk_put (cs := #[.int .i64 t162, .bool t163, .int .u64 t164, .int .i64 0]) ?_ 3 _ rfl; (with_reducible repeat (first | refine blk_drewN ?_ _ | refine blk_drew ?_ | refine blk_alloc ?_ _)); refine blk_put (cs := #[.int .i64 t162, .bool t163, .int .u64 0, .int .i64 0]) ?_ 2 _ rfl; (with_reducible repeat (first | refine blk_drewN ?_ _ | refine blk_drew ?_ | refine blk_alloc ?_ _)); refine blk_put (cs := #[.int .i64 t162, .bool false, .int .u64 0, .int .i64 0]) ?_ 1 _ rfl; (with_reducible repeat (first | refine blk_drewN ?_ _ | refine blk_drew ?_ | refine blk_alloc ?_ _)); refine blk_put (cs := #[.int .i64 0, .bool false, .int .u64 0, .int .i64 0]) ?_ 0 _ rfl; (with_reducible repeat (first | refine blk_drewN ?_ _ | refine blk_drew ?_ | refine blk_alloc ?_ _)); exact BK166.out⟩, ⟨by repeat (first | (with_reducible first | exact HB.out | apply below_alloc | apply pw_below_drewN | apply below_drew1 | refine below_set ?_ GE161.out | refine below_set ?_ GE166.out) | exact HB.out)⟩⟩
  case rest =>
    clear HC5
    try clear c1
    try clear c2
    try clear p2
    try clear c3
    try clear c11
    try clear c14
    try clear c14b0
    try clear c14b1
    try clear c15
    try clear c16
    try clear c17
    try clear c17b0
    try clear c17b1
    try clear c18
    try clear c21
    try clear c21b0
    try clear c21b1
    try clear c22
    try clear c22b0
    try clear c22b1
    try clear c23
    try clear c26
    try clear c26b0
    try clear c26b1
    try clear c27
    try clear c30
    try clear c33
    try clear c33b0
    try clear c33b1
    try clear c34
    try clear c37
    try clear hcz12_0
    try clear hcz12_1
    try clear hcz12_2
    try clear hcz12_3
    try clear hcz13_0
    try clear hcz13_1
    try clear hcz13_2
    try clear hcz13_3
    try clear hcz16_0
    try clear hcz16_1
    try clear hcz16_2
    try clear hcz16_3
    try clear hcz19_0
    try clear hcz19_1
    try clear hcz19_2
    try clear hcz19_3
    try clear hcz20_0
    try clear hcz20_1
    try clear hcz20_2
    try clear hcz20_3
    try clear hcz24_0
    try clear hcz24_1
    try clear hcz24_2
    try clear hcz24_3
    try clear hcz25_0
    try clear hcz25_1
    try clear hcz25_2
    try clear hcz25_3
    try clear hcz28_0
    try clear hcz28_1
    try clear hcz28_2
    try clear hcz28_3
    try clear hcz29_0
    try clear hcz29_1
    try clear hcz29_2
    try clear hcz29_3
    try clear hcz31_0
    try clear hcz31_1
    try clear hcz31_2
    try clear hcz31_3
    try clear hcz32_0
    try clear hcz32_1
    try clear hcz32_2
    try clear hcz32_3
    try clear hcz35_0
    try clear hcz35_1
    try clear hcz35_2
    try clear hcz35_3
    try clear hcz36_0
    try clear hcz36_1
    try clear hcz36_2
    try clear hcz36_3
    try clear hcz38_0
    try clear hcz38_1
    try clear hcz38_2
    try clear hcz38_3
    try clear hcz39_0
    try clear hcz39_1
    try clear hcz39_2
    try clear hcz39_3
    try clear hcz8_0
    try clear hcz8_1
    try clear hcz8_2
    try clear hcz8_3
    try clear hfz12_0
    try clear hfz12_1
    try clear hfz12_2
    try clear hfz12_3
    try clear hfz13_0
    try clear hfz13_1
    try clear hfz13_2
    try clear hfz13_3
    try clear hfz16_0
    try clear hfz16_1
    try clear hfz16_2
    try clear hfz16_3
    try clear hfz19_0
    try clear hfz19_1
    try clear hfz19_2
    try clear hfz19_3
    try clear hfz20_0
    try clear hfz20_1
    try clear hfz20_2
    try clear hfz20_3
    try clear hfz24_0
    try clear hfz24_1
    try clear hfz24_2
    try clear hfz24_3
    try clear hfz25_0
    try clear hfz25_1
    try clear hfz25_2
    try clear hfz25_3
    try clear hfz28_0
    try clear hfz28_1
    try clear hfz28_2
    try clear hfz28_3
    try clear hfz29_0
    try clear hfz29_1
    try clear hfz29_2
    try clear hfz29_3
    try clear hfz31_0
    try clear hfz31_1
    try clear hfz31_2
    try clear hfz31_3
    try clear hfz32_0
    try clear hfz32_1
    try clear hfz32_2
    try clear hfz32_3
    try clear hfz35_0
    try clear hfz35_1
    try clear hfz35_2
    try clear hfz35_3
    try clear hfz36_0
    try clear hfz36_1
    try clear hfz36_2
    try clear hfz36_3
    try clear hfz38_0
    try clear hfz38_1
    try clear hfz38_2
    try clear hfz38_3
    try clear hfz39_0
    try clear hfz39_1
    try clear hfz39_2
    try clear hfz39_3
    try clear hfz8_0
    try clear hfz8_1
    try clear hfz8_2
    try clear hfz8_3
    obtain ⟨kq, x48_4, rfl, HA, HJ4, BK161, BK166, HB⟩ := hcut
    cases kq with
    | zero => exact absurd HA.out (by simp [spec_Mul.j0])
    | succ kj4 =>
      have H := HA.out
      clear HA
      simp only [spec_Mul.j0] at H
      by_cases c40 : x48_4 = true
      · subst c40
        have H1 : (some 9221120237041090560) = some r := by rw [if_pos rfl] at H; exact H
        clear H
        have H := H1
        clear H1
        obtain rfl := Option.some.inj H
        go_wp2
        go_ret
        exact ⟨by first | rfl | (simp; done) | (simp [errW_none, errW_some] <;> rfl) | (simp [*, errW_none, errW_some] <;> rfl) | (simp [bne, List.isEmpty_iff]; done) | (rw [Bool.eq_iff_iff]; simp), by repeat (first | (with_reducible first | exact HB.out | apply below_alloc | apply pw_below_drewN | apply below_drew1 | refine below_set ?_ GE161.out | refine below_set ?_ GE166.out) | exact HB.out)⟩
      · replace c40 := Bool.eq_false_iff.mpr c40
        subst c40
        have H1 : (if t157 = 2 then (spec_Mul.j1 kj4 (t158 != t163) true t157 t158 t159 t160 t162 t163 t164 t165) else (spec_Mul.j1 kj4 (t158 != t163) (t162 == 2) t157 t158 t159 t160 t162 t163 t164 t165)) = some r := by rw [if_neg (show ¬ (false = true) by decide)] at H; exact H
        clear H
        have H := H1
        clear H1
        have HC41 := Aside0.mk H
        clear H
        go_upto_region 6 with (fail)
        go_cut [56] (fun v56 wc => ∃ (kq : Nat) (x56_40 : Bool), v56 = .bool x56_40 ∧ Aside0 (spec_Mul.j1 kq (t158 != t163) x56_40 t157 t158 t159 t160 t162 t163 t164 t165 = some r) ∧ Aside0 (kq ≤ kj4) ∧ Aside0 (wc.heap[gb161]? = some (.cells #[.int .i64 t157, .bool t158, .int .u64 t159, .int .i64 t160] 34 (0, 0))) ∧ Aside0 (wc.heap[gb166]? = some (.cells #[.int .i64 t162, .bool t163, .int .u64 t164, .int .i64 t165] 34 (0, 0))) ∧ Aside0 (Below w.heap.size w wc))
        case first =>
          have H := HC41.out
          clear HC41
          by_cases c42 : t157 = 2
          · rw [if_pos c42] at H
            have c42b0 : (t157 == 2) = true := beq_iff_eq.mpr c42
            have c42b1 : (t157 != 2) = false := bne_eq_false_iff_eq.mpr c42
            clear c42
            (first | rw [c42b0] | (simp only [i64_w, i32_w]; rw [c42b0]) | skip)
            have H' := Aside0.mk H
            clear H
            have hnb43 := NB161_166.out
            have hnc43 := NB166_161.out
            have hcz44_0 : wc.cell? ⟨gb161, 0, none⟩ = some (.int .i64 t157) := (blk_cell BK161.out 0).trans rfl
            have hcz44_1 : wc.cell? ⟨gb161, 1, none⟩ = some (.bool t158) := (blk_cell BK161.out 1).trans rfl
            have hcz44_2 : wc.cell? ⟨gb161, 2, none⟩ = some (.int .u64 t159) := (blk_cell BK161.out 2).trans rfl
            have hcz44_3 : wc.cell? ⟨gb161, 3, none⟩ = some (.int .i64 t160) := (blk_cell BK161.out 3).trans rfl
            have hfz44_0 := blk_frozen BK161.out 0
            have hfz44_1 := blk_frozen BK161.out 1
            have hfz44_2 := blk_frozen BK161.out 2
            have hfz44_3 := blk_frozen BK161.out 3
            go_wp2
            go_meet
            case rel => exact ⟨_, (true), (by first | rfl | (simp; done) | (simp [*]; done)), H', ⟨by have := HJ4.out; first | omega | exact Nat.le_refl _⟩, ⟨by (with_reducible repeat (first | refine blk_drewN ?_ _ | refine blk_drew ?_ | refine blk_alloc ?_ _)); exact BK161.out⟩, ⟨by (with_reducible repeat (first | refine blk_drewN ?_ _ | refine blk_drew ?_ | refine blk_alloc ?_ _)); exact BK166.out⟩, ⟨by repeat (first | (with_reducible first | exact HB.out | apply below_alloc | apply pw_below_drewN | apply below_drew1 | refine below_set ?_ GE161.out | refine below_set ?_ GE166.out) | exact HB.out)⟩⟩
          · rw [if_neg c42] at H
            have c42b0 : (t157 == 2) = false := beq_eq_false_iff_ne.mpr c42
            have c42b1 : (t157 != 2) = true := bne_iff_ne.mpr c42
            (first | rw [c42b0] | (simp only [i64_w, i32_w]; rw [c42b0]) | skip)
            have H' := Aside0.mk H
            clear H
            have hnb45 := NB161_166.out
            have hnc45 := NB166_161.out
            have hcz46_0 : wc.cell? ⟨gb161, 0, none⟩ = some (.int .i64 t157) := (blk_cell BK161.out 0).trans rfl
            have hcz46_1 : wc.cell? ⟨gb161, 1, none⟩ = some (.bool t158) := (blk_cell BK161.out 1).trans rfl
            have hcz46_2 : wc.cell? ⟨gb161, 2, none⟩ = some (.int .u64 t159) := (blk_cell BK161.out 2).trans rfl
            have hcz46_3 : wc.cell? ⟨gb161, 3, none⟩ = some (.int .i64 t160) := (blk_cell BK161.out 3).trans rfl
            have hfz46_0 := blk_frozen BK161.out 0
            have hfz46_1 := blk_frozen BK161.out 1
            have hfz46_2 := blk_frozen BK161.out 2
            have hfz46_3 := blk_frozen BK161.out 3
            have hcz47_0 : wc.cell? ⟨gb166, 0, none⟩ = some (.int .i64 t162) := (blk_cell BK166.out 0).trans rfl
            have hcz47_1 : wc.cell? ⟨gb166, 1, none⟩ = some (.bool t163) := (blk_cell BK166.out 1).trans rfl
            have hcz47_2 : wc.cell? ⟨gb166, 2, none⟩ = some (.int .u64 t164) := (blk_cell BK166.out 2).trans rfl
            have hcz47_3 : wc.cell? ⟨gb166, 3, none⟩ = some (.int .i64 t165) := (blk_cell BK166.out 3).trans rfl
            have hfz47_0 := blk_frozen BK166.out 0
            have hfz47_1 := blk_frozen BK166.out 1
            have hfz47_2 := blk_frozen BK166.out 2
            have hfz47_3 := blk_frozen BK166.out 3
            go_wp2
            go_meet
            case rel => exact ⟨_, ((t162 == 2)), (by first | rfl | (simp; done) | (simp [*]; done)), H', ⟨by have := HJ4.out; first | omega | exact Nat.le_refl _⟩, ⟨by (with_reducible repeat (first | refine blk_drewN ?_ _ | refine blk_drew ?_ | refine blk_alloc ?_ _)); exact BK161.out⟩, ⟨by (with_reducible repeat (first | refine blk_drewN ?_ _ | refine blk_drew ?_ | refine blk_alloc ?_ _)); exact BK166.out⟩, ⟨by repeat (first | (with_reducible first | exact HB.out | apply below_alloc | apply pw_below_drewN | apply below_drew1 | refine below_set ?_ GE161.out | refine below_set ?_ GE166.out) | exact HB.out)⟩⟩
        case rest =>
          clear HC41
          try clear c1
          try clear c2
          try clear p2
          try clear c3
          try clear c4
          try clear c11
          try clear c14
          try clear c14b0
          try clear c14b1
          try clear c15
          try clear c16
          try clear c17
          try clear c17b0
          try clear c17b1
          try clear c18
          try clear c21
          try clear c21b0
          try clear c21b1
          try clear c22
          try clear c22b0
          try clear c22b1
          try clear c23
          try clear c26
          try clear c26b0
          try clear c26b1
          try clear c27
          try clear c30
          try clear c33
          try clear c33b0
          try clear c33b1
          try clear c34
          try clear c37
          try clear c40
          try clear c42
          try clear c42b0
          try clear c42b1
          try clear c43
          try clear c45
          try clear hcz12_0
          try clear hcz12_1
          try clear hcz12_2
          try clear hcz12_3
          try clear hcz13_0
          try clear hcz13_1
          try clear hcz13_2
          try clear hcz13_3
          try clear hcz16_0
          try clear hcz16_1
          try clear hcz16_2
          try clear hcz16_3
          try clear hcz19_0
          try clear hcz19_1
          try clear hcz19_2
          try clear hcz19_3
          try clear hcz20_0
          try clear hcz20_1
          try clear hcz20_2
          try clear hcz20_3
          try clear hcz24_0
          try clear hcz24_1
          try clear hcz24_2
          try clear hcz24_3
          try clear hcz25_0
          try clear hcz25_1
          try clear hcz25_2
          try clear hcz25_3
          try clear hcz28_0
          try clear hcz28_1
          try clear hcz28_2
          try clear hcz28_3
          try clear hcz29_0
          try clear hcz29_1
          try clear hcz29_2
          try clear hcz29_3
          try clear hcz31_0
          try clear hcz31_1
          try clear hcz31_2
          try clear hcz31_3
          try clear hcz32_0
          try clear hcz32_1
          try clear hcz32_2
          try clear hcz32_3
          try clear hcz35_0
          try clear hcz35_1
          try clear hcz35_2
          try clear hcz35_3
          try clear hcz36_0
          try clear hcz36_1
          try clear hcz36_2
          try clear hcz36_3
          try clear hcz38_0
          try clear hcz38_1
          try clear hcz38_2
          try clear hcz38_3
          try clear hcz39_0
          try clear hcz39_1
          try clear hcz39_2
          try clear hcz39_3
          try clear hcz44_0
          try clear hcz44_1
          try clear hcz44_2
          try clear hcz44_3
          try clear hcz46_0
          try clear hcz46_1
          try clear hcz46_2
          try clear hcz46_3
          try clear hcz47_0
          try clear hcz47_1
          try clear hcz47_2
          try clear hcz47_3
          try clear hcz8_0
          try clear hcz8_1
          try clear hcz8_2
          try clear hcz8_3
          try clear hfz12_0
          try clear hfz12_1
          try clear hfz12_2
          try clear hfz12_3
          try clear hfz13_0
          try clear hfz13_1
          try clear hfz13_2
          try clear hfz13_3
          try clear hfz16_0
          try clear hfz16_1
          try clear hfz16_2
          try clear hfz16_3
          try clear hfz19_0
          try clear hfz19_1
          try clear hfz19_2
          try clear hfz19_3
          try clear hfz20_0
          try clear hfz20_1
          try clear hfz20_2
          try clear hfz20_3
          try clear hfz24_0
          try clear hfz24_1
          try clear hfz24_2
          try clear hfz24_3
          try clear hfz25_0
          try clear hfz25_1
          try clear hfz25_2
          try clear hfz25_3
          try clear hfz28_0
          try clear hfz28_1
          try clear hfz28_2
          try clear hfz28_3
          try clear hfz29_0
          try clear hfz29_1
          try clear hfz29_2
          try clear hfz29_3
          try clear hfz31_0
          try clear hfz31_1
          try clear hfz31_2
          try clear hfz31_3
          try clear hfz32_0
          try clear hfz32_1
          try clear hfz32_2
          try clear hfz32_3
          try clear hfz35_0
          try clear hfz35_1
          try clear hfz35_2
          try clear hfz35_3
          try clear hfz36_0
          try clear hfz36_1
          try clear hfz36_2
          try clear hfz36_3
          try clear hfz38_0
          try clear hfz38_1
          try clear hfz38_2
          try clear hfz38_3
          try clear hfz39_0
          try clear hfz39_1
          try clear hfz39_2
          try clear hfz39_3
          try clear hfz44_0
          try clear hfz44_1
          try clear hfz44_2
          try clear hfz44_3
          try clear hfz46_0
          try clear hfz46_1
          try clear hfz46_2
          try clear hfz46_3
          try clear hfz47_0
          try clear hfz47_1
          try clear hfz47_2
          try clear hfz47_3
          try clear hfz8_0
          try clear hfz8_1
          try clear hfz8_2
          try clear hfz8_3
          try clear p2
          obtain ⟨kq, x56_40, rfl, HA, HJ40, BK161, BK166, HB⟩ := hcut
          cases kq with
          | zero => exact absurd HA.out (by simp [spec_Mul.j1])
          | succ kj40 =>
            have H := HA.out
            clear HA
            simp only [spec_Mul.j1] at H
            by_cases c48 : x56_40 = true
            · subst c48
              have H1 : ((spec_l03Sign.f kj40 9218868437227405312 (t158 != t163)).bind fun t167 => (some t167)) = some r := by rw [if_pos rfl] at H; exact H
              clear H
              have H := H1
              clear H1
              replace H := Option.bind_eq_some_iff.mp H
              obtain ⟨t167, A490, H⟩ := H
              replace H : (some t167) = some r := H
              have A49 := Aside0.mk A490
              clear A490
              obtain rfl := Option.some.inj H
              go_wp2_with (first | ((with_reducible refine gate_callee (f := 43) rfl ?_); refine goesL_ (some 58) rfl rfl Try.func43 (by kernel_rfl) rfl #[.int .u64 9218868437227405312, .bool (t158 != t163)] rfl (by (try simp only [List.map_toArray, List.map_cons, List.map_nil]); first | done | rfl | (simp only [List.length_drop, List.length_take]; rfl)) ?_; (with_reducible refine (spec_l03Sign.calls kj40 9218868437227405312 (t158 != t163) t167 _ A49.out).mono ?_); rintro e w' ⟨rfl, ⟨nd, rfl⟩⟩; refine ⟨_, rfl, ?_⟩))
              go_ret
              exact ⟨by first | rfl | (simp; done) | (simp [errW_none, errW_some] <;> rfl) | (simp [*, errW_none, errW_some] <;> rfl) | (simp [bne, List.isEmpty_iff]; done) | (rw [Bool.eq_iff_iff]; simp), by repeat (first | (with_reducible first | exact HB.out | apply below_alloc | apply pw_below_drewN | apply below_drew1 | refine below_set ?_ GE161.out | refine below_set ?_ GE166.out) | exact HB.out)⟩
            · replace c48 := Bool.eq_false_iff.mpr c48
              subst c48
              have H1 : (if t157 = 3 then (spec_Mul.j2 kj40 (t158 != t163) true t157 t158 t159 t160 t162 t163 t164 t165) else (spec_Mul.j2 kj40 (t158 != t163) (t162 == 3) t157 t158 t159 t160 t162 t163 t164 t165)) = some r := by rw [if_neg (show ¬ (false = true) by decide)] at H; exact H
              clear H
              have H := H1
              clear H1
              have HC50 := Aside0.mk H
              clear H
              go_upto_region 8 with (fail)
              go_cut [66] (fun v66 wc => ∃ (kq : Nat) (x66_49 : Bool), v66 = .bool x66_49 ∧ Aside0 (spec_Mul.j2 kq (t158 != t163) x66_49 t157 t158 t159 t160 t162 t163 t164 t165 = some r) ∧ Aside0 (kq ≤ kj40) ∧ Aside0 (wc.heap[gb161]? = some (.cells #[.int .i64 t157, .bool t158, .int .u64 t159, .int .i64 t160] 34 (0, 0))) ∧ Aside0 (wc.heap[gb166]? = some (.cells #[.int .i64 t162, .bool t163, .int .u64 t164, .int .i64 t165] 34 (0, 0))) ∧ Aside0 (Below w.heap.size w wc))
              case first =>
                have H := HC50.out
                clear HC50
                by_cases c51 : t157 = 3
                · rw [if_pos c51] at H
                  have c51b0 : (t157 == 3) = true := beq_iff_eq.mpr c51
                  have c51b1 : (t157 != 3) = false := bne_eq_false_iff_eq.mpr c51
                  clear c51
                  (first | rw [c51b0] | (simp only [i64_w, i32_w]; rw [c51b0]) | skip)
                  have H' := Aside0.mk H
                  clear H
                  have hnb52 := NB161_166.out
                  have hnc52 := NB166_161.out
                  have hcz53_0 : wc.cell? ⟨gb161, 0, none⟩ = some (.int .i64 t157) := (blk_cell BK161.out 0).trans rfl
                  have hcz53_1 : wc.cell? ⟨gb161, 1, none⟩ = some (.bool t158) := (blk_cell BK161.out 1).trans rfl
                  have hcz53_2 : wc.cell? ⟨gb161, 2, none⟩ = some (.int .u64 t159) := (blk_cell BK161.out 2).trans rfl
                  have hcz53_3 : wc.cell? ⟨gb161, 3, none⟩ = some (.int .i64 t160) := (blk_cell BK161.out 3).trans rfl
                  have hfz53_0 := blk_frozen BK161.out 0
                  have hfz53_1 := blk_frozen BK161.out 1
                  have hfz53_2 := blk_frozen BK161.out 2
                  have hfz53_3 := blk_frozen BK161.out 3
                  go_wp2
                  go_meet
                  case rel => exact ⟨_, (true), (by first | rfl | (simp; done) | (simp [*]; done)), H', ⟨by have := HJ4.out; have := HJ40.out; first | omega | exact Nat.le_refl _⟩, ⟨by (with_reducible repeat (first | refine blk_drewN ?_ _ | refine blk_drew ?_ | refine blk_alloc ?_ _)); exact BK161.out⟩, ⟨by (with_reducible repeat (first | refine blk_drewN ?_ _ | refine blk_drew ?_ | refine blk_alloc ?_ _)); exact BK166.out⟩, ⟨by repeat (first | (with_reducible first | exact HB.out | apply below_alloc | apply pw_below_drewN | apply below_drew1 | refine below_set ?_ GE161.out | refine below_set ?_ GE166.out) | exact HB.out)⟩⟩
                · rw [if_neg c51] at H
                  have c51b0 : (t157 == 3) = false := beq_eq_false_iff_ne.mpr c51
                  have c51b1 : (t157 != 3) = true := bne_iff_ne.mpr c51
                  (first | rw [c51b0] | (simp only [i64_w, i32_w]; rw [c51b0]) | skip)
                  have H' := Aside0.mk H
                  clear H
                  have hnb54 := NB161_166.out
                  have hnc54 := NB166_161.out
                  have hcz55_0 : wc.cell? ⟨gb161, 0, none⟩ = some (.int .i64 t157) := (blk_cell BK161.out 0).trans rfl
                  have hcz55_1 : wc.cell? ⟨gb161, 1, none⟩ = some (.bool t158) := (blk_cell BK161.out 1).trans rfl
                  have hcz55_2 : wc.cell? ⟨gb161, 2, none⟩ = some (.int .u64 t159) := (blk_cell BK161.out 2).trans rfl
                  have hcz55_3 : wc.cell? ⟨gb161, 3, none⟩ = some (.int .i64 t160) := (blk_cell BK161.out 3).trans rfl
                  have hfz55_0 := blk_frozen BK161.out 0
                  have hfz55_1 := blk_frozen BK161.out 1
                  have hfz55_2 := blk_frozen BK161.out 2
                  have hfz55_3 := blk_frozen BK161.out 3
                  have hcz56_0 : wc.cell? ⟨gb166, 0, none⟩ = some (.int .i64 t162) := (blk_cell BK166.out 0).trans rfl
                  have hcz56_1 : wc.cell? ⟨gb166, 1, none⟩ = some (.bool t163) := (blk_cell BK166.out 1).trans rfl
                  have hcz56_2 : wc.cell? ⟨gb166, 2, none⟩ = some (.int .u64 t164) := (blk_cell BK166.out 2).trans rfl
                  have hcz56_3 : wc.cell? ⟨gb166, 3, none⟩ = some (.int .i64 t165) := (blk_cell BK166.out 3).trans rfl
                  have hfz56_0 := blk_frozen BK166.out 0
                  have hfz56_1 := blk_frozen BK166.out 1
                  have hfz56_2 := blk_frozen BK166.out 2
                  have hfz56_3 := blk_frozen BK166.out 3
                  go_wp2
                  go_meet
                  case rel => exact ⟨_, ((t162 == 3)), (by first | rfl | (simp; done) | (simp [*]; done)), H', ⟨by have := HJ4.out; have := HJ40.out; first | omega | exact Nat.le_refl _⟩, ⟨by (with_reducible repeat (first | refine blk_drewN ?_ _ | refine blk_drew ?_ | refine blk_alloc ?_ _)); exact BK161.out⟩, ⟨by (with_reducible repeat (first | refine blk_drewN ?_ _ | refine blk_drew ?_ | refine blk_alloc ?_ _)); exact BK166.out⟩, ⟨by repeat (first | (with_reducible first | exact HB.out | apply below_alloc | apply pw_below_drewN | apply below_drew1 | refine below_set ?_ GE161.out | refine below_set ?_ GE166.out) | exact HB.out)⟩⟩
              case rest =>
                clear HC50
                try clear c1
                try clear c2
                try clear p2
                try clear c3
                try clear c4
                try clear c5
                try clear c11
                try clear c14
                try clear c14b0
                try clear c14b1
                try clear c15
                try clear c16
                try clear c17
                try clear c17b0
                try clear c17b1
                try clear c18
                try clear c21
                try clear c21b0
                try clear c21b1
                try clear c22
                try clear c22b0
                try clear c22b1
                try clear c23
                try clear c26
                try clear c26b0
                try clear c26b1
                try clear c27
                try clear c30
                try clear c33
                try clear c33b0
                try clear c33b1
                try clear c34
                try clear c37
                try clear c40
                try clear c42
                try clear c42b0
                try clear c42b1
                try clear c43
                try clear c45
                try clear c48
                try clear c51
                try clear c51b0
                try clear c51b1
                try clear c52
                try clear c54
                try clear hcz12_0
                try clear hcz12_1
                try clear hcz12_2
                try clear hcz12_3
                try clear hcz13_0
                try clear hcz13_1
                try clear hcz13_2
                try clear hcz13_3
                try clear hcz16_0
                try clear hcz16_1
                try clear hcz16_2
                try clear hcz16_3
                try clear hcz19_0
                try clear hcz19_1
                try clear hcz19_2
                try clear hcz19_3
                try clear hcz20_0
                try clear hcz20_1
                try clear hcz20_2
                try clear hcz20_3
                try clear hcz24_0
                try clear hcz24_1
                try clear hcz24_2
                try clear hcz24_3
                try clear hcz25_0
                try clear hcz25_1
                try clear hcz25_2
                try clear hcz25_3
                try clear hcz28_0
                try clear hcz28_1
                try clear hcz28_2
                try clear hcz28_3
                try clear hcz29_0
                try clear hcz29_1
                try clear hcz29_2
                try clear hcz29_3
                try clear hcz31_0
                try clear hcz31_1
                try clear hcz31_2
                try clear hcz31_3
                try clear hcz32_0
                try clear hcz32_1
                try clear hcz32_2
                try clear hcz32_3
                try clear hcz35_0
                try clear hcz35_1
                try clear hcz35_2
                try clear hcz35_3
                try clear hcz36_0
                try clear hcz36_1
                try clear hcz36_2
                try clear hcz36_3
                try clear hcz38_0
                try clear hcz38_1
                try clear hcz38_2
                try clear hcz38_3
                try clear hcz39_0
                try clear hcz39_1
                try clear hcz39_2
                try clear hcz39_3
                try clear hcz44_0
                try clear hcz44_1
                try clear hcz44_2
                try clear hcz44_3
                try clear hcz46_0
                try clear hcz46_1
                try clear hcz46_2
                try clear hcz46_3
                try clear hcz47_0
                try clear hcz47_1
                try clear hcz47_2
                try clear hcz47_3
                try clear hcz53_0
                try clear hcz53_1
                try clear hcz53_2
                try clear hcz53_3
                try clear hcz55_0
                try clear hcz55_1
                try clear hcz55_2
                try clear hcz55_3
                try clear hcz56_0
                try clear hcz56_1
                try clear hcz56_2
                try clear hcz56_3
                try clear hcz8_0
                try clear hcz8_1
                try clear hcz8_2
                try clear hcz8_3
                try clear hfz12_0
                try clear hfz12_1
                try clear hfz12_2
                try clear hfz12_3
                try clear hfz13_0
                try clear hfz13_1
                try clear hfz13_2
                try clear hfz13_3
                try clear hfz16_0
                try clear hfz16_1
                try clear hfz16_2
                try clear hfz16_3
                try clear hfz19_0
                try clear hfz19_1
                try clear hfz19_2
                try clear hfz19_3
                try clear hfz20_0
                try clear hfz20_1
                try clear hfz20_2
                try clear hfz20_3
                try clear hfz24_0
                try clear hfz24_1
                try clear hfz24_2
                try clear hfz24_3
                try clear hfz25_0
                try clear hfz25_1
                try clear hfz25_2
                try clear hfz25_3
                try clear hfz28_0
                try clear hfz28_1
                try clear hfz28_2
                try clear hfz28_3
                try clear hfz29_0
                try clear hfz29_1
                try clear hfz29_2
                try clear hfz29_3
                try clear hfz31_0
                try clear hfz31_1
                try clear hfz31_2
                try clear hfz31_3
                try clear hfz32_0
                try clear hfz32_1
                try clear hfz32_2
                try clear hfz32_3
                try clear hfz35_0
                try clear hfz35_1
                try clear hfz35_2
                try clear hfz35_3
                try clear hfz36_0
                try clear hfz36_1
                try clear hfz36_2
                try clear hfz36_3
                try clear hfz38_0
                try clear hfz38_1
                try clear hfz38_2
                try clear hfz38_3
                try clear hfz39_0
                try clear hfz39_1
                try clear hfz39_2
                try clear hfz39_3
                try clear hfz44_0
                try clear hfz44_1
                try clear hfz44_2
                try clear hfz44_3
                try clear hfz46_0
                try clear hfz46_1
                try clear hfz46_2
                try clear hfz46_3
                try clear hfz47_0
                try clear hfz47_1
                try clear hfz47_2
                try clear hfz47_3
                try clear hfz53_0
                try clear hfz53_1
                try clear hfz53_2
                try clear hfz53_3
                try clear hfz55_0
                try clear hfz55_1
                try clear hfz55_2
                try clear hfz55_3
                try clear hfz56_0
                try clear hfz56_1
                try clear hfz56_2
                try clear hfz56_3
                try clear hfz8_0
                try clear hfz8_1
                try clear hfz8_2
                try clear hfz8_3
                try clear p2
                obtain ⟨kq, x66_49, rfl, HA, HJ49, BK161, BK166, HB⟩ := hcut
                cases kq with
                | zero => exact absurd HA.out (by simp [spec_Mul.j2])
                | succ kj49 =>
                  have H := HA.out
                  clear HA
                  simp only [spec_Mul.j2] at H
                  by_cases c57 : x66_49 = true
                  · subst c57
                    have H1 : ((spec_l03Sign.f kj49 0 (t158 != t163)).bind fun t168 => (some t168)) = some r := by rw [if_pos rfl] at H; exact H
                    clear H
                    have H := H1
                    clear H1
                    replace H := Option.bind_eq_some_iff.mp H
                    obtain ⟨t168, A580, H⟩ := H
                    replace H : (some t168) = some r := H
                    have A58 := Aside0.mk A580
                    clear A580
                    obtain rfl := Option.some.inj H
                    go_wp2_with (first | ((with_reducible refine gate_callee (f := 43) rfl ?_); refine goesL_ (some 68) rfl rfl Try.func43 (by kernel_rfl) rfl #[.int .u64 0, .bool (t158 != t163)] rfl (by (try simp only [List.map_toArray, List.map_cons, List.map_nil]); first | done | rfl | (simp only [List.length_drop, List.length_take]; rfl)) ?_; (with_reducible refine (spec_l03Sign.calls kj49 0 (t158 != t163) t168 _ A58.out).mono ?_); rintro e w' ⟨rfl, ⟨nd, rfl⟩⟩; refine ⟨_, rfl, ?_⟩))
                    go_ret
                    exact ⟨by first | rfl | (simp; done) | (simp [errW_none, errW_some] <;> rfl) | (simp [*, errW_none, errW_some] <;> rfl) | (simp [bne, List.isEmpty_iff]; done) | (rw [Bool.eq_iff_iff]; simp), by repeat (first | (with_reducible first | exact HB.out | apply below_alloc | apply pw_below_drewN | apply below_drew1 | refine below_set ?_ GE161.out | refine below_set ?_ GE166.out) | exact HB.out)⟩
                  · replace c57 := Bool.eq_false_iff.mpr c57
                    subst c57
                    have H1 : ((spec_Wide.f t159 t164).bind fun bt169 => (spec_Mul.l0 kj49 (t158 != t163) bt169.1 bt169.2 (wrap64 (t160 + t165)) false)) = some r := by rw [if_neg (show ¬ (false = true) by decide)] at H; exact H
                    clear H
                    have H := H1
                    clear H1
                    replace H := Option.bind_eq_some_iff.mp H
                    obtain ⟨⟨t169, t170⟩, A590, H⟩ := H
                    replace H : (spec_Mul.l0 kj49 (t158 != t163) t169 t170 (wrap64 (t160 + t165)) false) = some r := H
                    have A59 := Aside0.mk A590
                    clear A590
                    have H' := Aside0.mk H
                    clear H
                    have hnb60 := NB161_166.out
                    have hnc60 := NB166_161.out
                    have hcz61_0 : wc.cell? ⟨gb161, 0, none⟩ = some (.int .i64 t157) := (blk_cell BK161.out 0).trans rfl
                    have hcz61_1 : wc.cell? ⟨gb161, 1, none⟩ = some (.bool t158) := (blk_cell BK161.out 1).trans rfl
                    have hcz61_2 : wc.cell? ⟨gb161, 2, none⟩ = some (.int .u64 t159) := (blk_cell BK161.out 2).trans rfl
                    have hcz61_3 : wc.cell? ⟨gb161, 3, none⟩ = some (.int .i64 t160) := (blk_cell BK161.out 3).trans rfl
                    have hfz61_0 := blk_frozen BK161.out 0
                    have hfz61_1 := blk_frozen BK161.out 1
                    have hfz61_2 := blk_frozen BK161.out 2
                    have hfz61_3 := blk_frozen BK161.out 3
                    have hcz62_0 : wc.cell? ⟨gb166, 0, none⟩ = some (.int .i64 t162) := (blk_cell BK166.out 0).trans rfl
                    have hcz62_1 : wc.cell? ⟨gb166, 1, none⟩ = some (.bool t163) := (blk_cell BK166.out 1).trans rfl
                    have hcz62_2 : wc.cell? ⟨gb166, 2, none⟩ = some (.int .u64 t164) := (blk_cell BK166.out 2).trans rfl
                    have hcz62_3 : wc.cell? ⟨gb166, 3, none⟩ = some (.int .i64 t165) := (blk_cell BK166.out 3).trans rfl
                    have hfz62_0 := blk_frozen BK166.out 0
                    have hfz62_1 := blk_frozen BK166.out 1
                    have hfz62_2 := blk_frozen BK166.out 2
                    have hfz62_3 := blk_frozen BK166.out 3
                    go_wp2_with (first | ((with_reducible refine gate_callee (f := 44) rfl ?_); refine goesL_ (some 74) rfl rfl Try.func44 (by kernel_rfl) rfl #[.int .u64 t159, .int .u64 t164] rfl (by (try simp only [List.map_toArray, List.map_cons, List.map_nil]); first | done | rfl | (simp only [List.length_drop, List.length_take]; rfl)) ?_; (with_reducible refine (spec_Wide.calls t159 t164 t169 t170 _ A59.out).mono ?_); rintro e w' ⟨rfl, ⟨nd, rfl⟩⟩; refine ⟨_, rfl, ?_⟩))
                    go_loopg [8, 9, 10, 11] kj49 (fun kq v8 v9 v10 v11 w' => ∃ (x8_4 : Int) (x9_4 : Int) (x10_4 : Int) (x11_4 : Bool), v8 = .int .u64 x8_4 ∧ v9 = .int .u64 x9_4 ∧ v10 = .int .i64 x10_4 ∧ v11 = .bool x11_4 ∧ Aside0 (spec_Mul.l0 kq (t158 != t163) x8_4 x9_4 x10_4 x11_4 = some r) ∧ Aside0 (kq ≤ kj49) ∧ Aside0 (w'.heap[gb161]? = some (.cells #[.int .i64 t157, .bool t158, .int .u64 t159, .int .i64 t160] 34 (0, 0))) ∧ Aside0 (w'.heap[gb166]? = some (.cells #[.int .i64 t162, .bool t163, .int .u64 t164, .int .i64 t165] 34 (0, 0))) ∧ Aside0 (Below w.heap.size w w'))
                    case atStart => exact ⟨(t169), (t170), (wrap64 (t160 + t165)), (false), (by first | rfl | (simp; done) | (simp [*]; done)), (by first | rfl | (simp; done) | (simp [*]; done)), (by first | rfl | (simp; done) | (simp [*]; done)), (by first | rfl | (simp; done) | (simp [*]; done)), H', ⟨Nat.le_refl _⟩, ⟨by (with_reducible repeat (first | refine blk_drewN ?_ _ | refine blk_drew ?_ | refine blk_alloc ?_ _)); exact BK161.out⟩, ⟨by (with_reducible repeat (first | refine blk_drewN ?_ _ | refine blk_drew ?_ | refine blk_alloc ?_ _)); exact BK166.out⟩, ⟨by repeat (first | (with_reducible first | exact HB.out | apply below_alloc | apply pw_below_drewN | apply below_drew1 | refine below_set ?_ GE161.out | refine below_set ?_ GE166.out) | exact HB.out)⟩⟩
                    case round =>
                      clear H'
                      try clear c1
                      try clear c2
                      try clear p2
                      try clear c3
                      try clear c4
                      try clear c5
                      try clear c6
                      try clear p6
                      try clear c11
                      try clear c14
                      try clear c14b0
                      try clear c14b1
                      try clear c15
                      try clear c16
                      try clear c17
                      try clear c17b0
                      try clear c17b1
                      try clear c18
                      try clear c21
                      try clear c21b0
                      try clear c21b1
                      try clear c22
                      try clear c22b0
                      try clear c22b1
                      try clear c23
                      try clear c26
                      try clear c26b0
                      try clear c26b1
                      try clear c27
                      try clear c30
                      try clear c33
                      try clear c33b0
                      try clear c33b1
                      try clear c34
                      try clear c37
                      try clear c40
                      try clear c42
                      try clear c42b0
                      try clear c42b1
                      try clear c43
                      try clear c44
                      try clear c45
                      try clear c48
                      try clear c51
                      try clear c51b0
                      try clear c51b1
                      try clear c52
                      try clear c54
                      try clear c57
                      try clear c60
                      try clear hcz12_0
                      try clear hcz12_1
                      try clear hcz12_2
                      try clear hcz12_3
                      try clear hcz13_0
                      try clear hcz13_1
                      try clear hcz13_2
                      try clear hcz13_3
                      try clear hcz16_0
                      try clear hcz16_1
                      try clear hcz16_2
                      try clear hcz16_3
                      try clear hcz19_0
                      try clear hcz19_1
                      try clear hcz19_2
                      try clear hcz19_3
                      try clear hcz20_0
                      try clear hcz20_1
                      try clear hcz20_2
                      try clear hcz20_3
                      try clear hcz24_0
                      try clear hcz24_1
                      try clear hcz24_2
                      try clear hcz24_3
                      try clear hcz25_0
                      try clear hcz25_1
                      try clear hcz25_2
                      try clear hcz25_3
                      try clear hcz28_0
                      try clear hcz28_1
                      try clear hcz28_2
                      try clear hcz28_3
                      try clear hcz29_0
                      try clear hcz29_1
                      try clear hcz29_2
                      try clear hcz29_3
                      try clear hcz31_0
                      try clear hcz31_1
                      try clear hcz31_2
                      try clear hcz31_3
                      try clear hcz32_0
                      try clear hcz32_1
                      try clear hcz32_2
                      try clear hcz32_3
                      try clear hcz35_0
                      try clear hcz35_1
                      try clear hcz35_2
                      try clear hcz35_3
                      try clear hcz36_0
                      try clear hcz36_1
                      try clear hcz36_2
                      try clear hcz36_3
                      try clear hcz38_0
                      try clear hcz38_1
                      try clear hcz38_2
                      try clear hcz38_3
                      try clear hcz39_0
                      try clear hcz39_1
                      try clear hcz39_2
                      try clear hcz39_3
                      try clear hcz44_0
                      try clear hcz44_1
                      try clear hcz44_2
                      try clear hcz44_3
                      try clear hcz46_0
                      try clear hcz46_1
                      try clear hcz46_2
                      try clear hcz46_3
                      try clear hcz47_0
                      try clear hcz47_1
                      try clear hcz47_2
                      try clear hcz47_3
                      try clear hcz53_0
                      try clear hcz53_1
                      try clear hcz53_2
                      try clear hcz53_3
                      try clear hcz55_0
                      try clear hcz55_1
                      try clear hcz55_2
                      try clear hcz55_3
                      try clear hcz56_0
                      try clear hcz56_1
                      try clear hcz56_2
                      try clear hcz56_3
                      try clear hcz61_0
                      try clear hcz61_1
                      try clear hcz61_2
                      try clear hcz61_3
                      try clear hcz62_0
                      try clear hcz62_1
                      try clear hcz62_2
                      try clear hcz62_3
                      try clear hcz8_0
                      try clear hcz8_1
                      try clear hcz8_2
                      try clear hcz8_3
                      try clear hfz12_0
                      try clear hfz12_1
                      try clear hfz12_2
                      try clear hfz12_3
                      try clear hfz13_0
                      try clear hfz13_1
                      try clear hfz13_2
                      try clear hfz13_3
                      try clear hfz16_0
                      try clear hfz16_1
                      try clear hfz16_2
                      try clear hfz16_3
                      try clear hfz19_0
                      try clear hfz19_1
                      try clear hfz19_2
                      try clear hfz19_3
                      try clear hfz20_0
                      try clear hfz20_1
                      try clear hfz20_2
                      try clear hfz20_3
                      try clear hfz24_0
                      try clear hfz24_1
                      try clear hfz24_2
                      try clear hfz24_3
                      try clear hfz25_0
                      try clear hfz25_1
                      try clear hfz25_2
                      try clear hfz25_3
                      try clear hfz28_0
                      try clear hfz28_1
                      try clear hfz28_2
                      try clear hfz28_3
                      try clear hfz29_0
                      try clear hfz29_1
                      try clear hfz29_2
                      try clear hfz29_3
                      try clear hfz31_0
                      try clear hfz31_1
                      try clear hfz31_2
                      try clear hfz31_3
                      try clear hfz32_0
                      try clear hfz32_1
                      try clear hfz32_2
                      try clear hfz32_3
                      try clear hfz35_0
                      try clear hfz35_1
                      try clear hfz35_2
                      try clear hfz35_3
                      try clear hfz36_0
                      try clear hfz36_1
                      try clear hfz36_2
                      try clear hfz36_3
                      try clear hfz38_0
                      try clear hfz38_1
                      try clear hfz38_2
                      try clear hfz38_3
                      try clear hfz39_0
                      try clear hfz39_1
                      try clear hfz39_2
                      try clear hfz39_3
                      try clear hfz44_0
                      try clear hfz44_1
                      try clear hfz44_2
                      try clear hfz44_3
                      try clear hfz46_0
                      try clear hfz46_1
                      try clear hfz46_2
                      try clear hfz46_3
                      try clear hfz47_0
                      try clear hfz47_1
                      try clear hfz47_2
                      try clear hfz47_3
                      try clear hfz53_0
                      try clear hfz53_1
                      try clear hfz53_2
                      try clear hfz53_3
                      try clear hfz55_0
                      try clear hfz55_1
                      try clear hfz55_2
                      try clear hfz55_3
                      try clear hfz56_0
                      try clear hfz56_1
                      try clear hfz56_2
                      try clear hfz56_3
                      try clear hfz61_0
                      try clear hfz61_1
                      try clear hfz61_2
                      try clear hfz61_3
                      try clear hfz62_0
                      try clear hfz62_1
                      try clear hfz62_2
                      try clear hfz62_3
                      try clear hfz8_0
                      try clear hfz8_1
                      try clear hfz8_2
                      try clear hfz8_3
                      try clear p2
                      obtain ⟨x8_4, x9_4, x10_4, x11_4, rfl, rfl, rfl, rfl, HA, HK4, BK161, BK166, HB⟩ := hrel
                      cases gk with
                      | zero => exact absurd HA.out (by simp [spec_Mul.l0])
                      | succ k4 =>
                        have H := HA.out
                        clear HA
                        simp only [spec_Mul.l0] at H
                        by_cases c63 : x8_4 > 0
                        · rw [if_pos c63] at H
                          have c63b0 : decide (0 < x8_4) = true := decide_eq_true c63
                          clear c63
                          by_cases c64 : x11_4 = true
                          · subst c64
                            have H1 : ((spec_l03Pow.f k4 63).bind fun t171 => (spec_Mul.l0 k4 (t158 != t163) (IntKind.u64.wrap (Int.tdiv x8_4 2)) (IntKind.u64.wrap ((IntKind.u64.wrap (Int.tdiv x9_4 2)) + (IntKind.u64.wrap ((Int.tmod x8_4 2) * t171)))) (wrap64 (x10_4 + 1)) true)) = some r := by rw [if_pos rfl] at H; exact H
                            clear H
                            have H := H1
                            clear H1
                            replace H := Option.bind_eq_some_iff.mp H
                            obtain ⟨t171, A650, H⟩ := H
                            replace H : (spec_Mul.l0 k4 (t158 != t163) (IntKind.u64.wrap (Int.tdiv x8_4 2)) (IntKind.u64.wrap ((IntKind.u64.wrap (Int.tdiv x9_4 2)) + (IntKind.u64.wrap ((Int.tmod x8_4 2) * t171)))) (wrap64 (x10_4 + 1)) true) = some r := H
                            have A65 := Aside0.mk A650
                            clear A650
                            have H' := Aside0.mk H
                            clear H
                            go_wp2_with (first | ((with_reducible refine gate_callee (f := 37) rfl ?_); refine goesL_ (some 94) rfl rfl Try.func37 (by kernel_rfl) rfl #[.int .i64 63] rfl (by (try simp only [List.map_toArray, List.map_cons, List.map_nil]); first | done | rfl | (simp only [List.length_drop, List.length_take]; rfl)) ?_; (with_reducible refine (spec_l03Pow.calls k4 63 t171 _ A65.out).mono ?_); rintro e w' ⟨rfl, ⟨nd, rfl⟩⟩; refine ⟨_, rfl, ?_⟩))
                            go_roundg k4
                            case measure => have := HJ4.out; have := HJ40.out; have := HJ49.out; have := HK4.out; omega
                            case rel => exact ⟨(IntKind.u64.wrap (Int.tdiv x8_4 2)), (IntKind.u64.wrap ((IntKind.u64.wrap (Int.tdiv x9_4 2)) + (IntKind.u64.wrap ((Int.tmod x8_4 2) * t171)))), (wrap64 (x10_4 + 1)), (true), (by first | rfl | (simp; done) | (simp [*]; done)), (by first | rfl | (simp; done) | (simp [*]; done)), (by first | rfl | (simp; done) | (simp [*]; done)), (by first | rfl | (simp; done) | (simp [*]; done)), H', ⟨by have := HJ4.out; have := HJ40.out; have := HJ49.out; have := HK4.out; omega⟩, ⟨by (with_reducible repeat (first | refine blk_drewN ?_ _ | refine blk_drew ?_ | refine blk_alloc ?_ _)); exact BK161.out⟩, ⟨by (with_reducible repeat (first | refine blk_drewN ?_ _ | refine blk_drew ?_ | refine blk_alloc ?_ _)); exact BK166.out⟩, ⟨by repeat (first | (with_reducible first | exact HB.out | apply below_alloc | apply pw_below_drewN | apply below_drew1 | refine below_set ?_ GE161.out | refine below_set ?_ GE166.out) | exact HB.out)⟩⟩
                          · replace c64 := Bool.eq_false_iff.mpr c64
                            subst c64
                            have H1 : ((spec_l03Pow.f k4 63).bind fun t172 => (spec_Mul.l0 k4 (t158 != t163) (IntKind.u64.wrap (Int.tdiv x8_4 2)) (IntKind.u64.wrap ((IntKind.u64.wrap (Int.tdiv x9_4 2)) + (IntKind.u64.wrap ((Int.tmod x8_4 2) * t172)))) (wrap64 (x10_4 + 1)) ((Int.tmod x9_4 2) == 1))) = some r := by rw [if_neg (show ¬ (false = true) by decide)] at H; exact H
                            clear H
                            have H := H1
                            clear H1
                            replace H := Option.bind_eq_some_iff.mp H
                            obtain ⟨t172, A660, H⟩ := H
                            replace H : (spec_Mul.l0 k4 (t158 != t163) (IntKind.u64.wrap (Int.tdiv x8_4 2)) (IntKind.u64.wrap ((IntKind.u64.wrap (Int.tdiv x9_4 2)) + (IntKind.u64.wrap ((Int.tmod x8_4 2) * t172)))) (wrap64 (x10_4 + 1)) ((Int.tmod x9_4 2) == 1)) = some r := H
                            have A66 := Aside0.mk A660
                            clear A660
                            have H' := Aside0.mk H
                            clear H
                            go_wp2_with (first | ((with_reducible refine gate_callee (f := 37) rfl ?_); refine goesL_ (some 94) rfl rfl Try.func37 (by kernel_rfl) rfl #[.int .i64 63] rfl (by (try simp only [List.map_toArray, List.map_cons, List.map_nil]); first | done | rfl | (simp only [List.length_drop, List.length_take]; rfl)) ?_; (with_reducible refine (spec_l03Pow.calls k4 63 t172 _ A66.out).mono ?_); rintro e w' ⟨rfl, ⟨nd, rfl⟩⟩; refine ⟨_, rfl, ?_⟩))
                            go_roundg k4
                            case measure => have := HJ4.out; have := HJ40.out; have := HJ49.out; have := HK4.out; omega
                            case rel => exact ⟨(IntKind.u64.wrap (Int.tdiv x8_4 2)), (IntKind.u64.wrap ((IntKind.u64.wrap (Int.tdiv x9_4 2)) + (IntKind.u64.wrap ((Int.tmod x8_4 2) * t172)))), (wrap64 (x10_4 + 1)), (((Int.tmod x9_4 2) == 1)), (by first | rfl | (simp; done) | (simp [*]; done)), (by first | rfl | (simp; done) | (simp [*]; done)), (by first | rfl | (simp; done) | (simp [*]; done)), (by first | rfl | (simp; done) | (simp [*]; done)), H', ⟨by have := HJ4.out; have := HJ40.out; have := HJ49.out; have := HK4.out; omega⟩, ⟨by (with_reducible repeat (first | refine blk_drewN ?_ _ | refine blk_drew ?_ | refine blk_alloc ?_ _)); exact BK161.out⟩, ⟨by (with_reducible repeat (first | refine blk_drewN ?_ _ | refine blk_drew ?_ | refine blk_alloc ?_ _)); exact BK166.out⟩, ⟨by repeat (first | (with_reducible first | exact HB.out | apply below_alloc | apply pw_below_drewN | apply below_drew1 | refine below_set ?_ GE161.out | refine below_set ?_ GE166.out) | exact HB.out)⟩⟩
                        · rw [if_neg c63] at H
                          have c63b0 : decide (0 < x8_4) = false := decide_eq_false c63
                          clear c63
                          replace H := Option.bind_eq_some_iff.mp H
                          obtain ⟨t173, A670, H⟩ := H
                          replace H : (some t173) = some r := H
                          have A67 := Aside0.mk A670
                          clear A670
                          obtain rfl := Option.some.inj H
                          go_wp2_with (first | ((with_reducible refine gate_callee (f := 42) rfl ?_); refine goesL_ (some 105) rfl rfl Try.func42 (by kernel_rfl) rfl #[.bool (t158 != t163), .int .u64 x9_4, .int .i64 x10_4, .bool x11_4] rfl (by (try simp only [List.map_toArray, List.map_cons, List.map_nil]); first | done | rfl | (simp only [List.length_drop, List.length_take]; rfl)) ?_; (with_reducible refine (spec_RoundTo.calls k4 (t158 != t163) x9_4 x10_4 x11_4 t173 _ A67.out).mono ?_); rintro e w' ⟨rfl, ⟨nd, rfl⟩⟩; refine ⟨_, rfl, ?_⟩))
                          go_ret
                          exact ⟨by first | rfl | (simp; done) | (simp [errW_none, errW_some] <;> rfl) | (simp [*, errW_none, errW_some] <;> rfl) | (simp [bne, List.isEmpty_iff]; done) | (rw [Bool.eq_iff_iff]; simp), by repeat (first | (with_reducible first | exact HB.out | apply below_alloc | apply pw_below_drewN | apply below_drew1 | refine below_set ?_ GE161.out | refine below_set ?_ GE166.out) | exact HB.out)⟩
end Go.Proofs.Ytokhgodcamhibaa.QFnExactDoBinary
end
section
namespace Go.Proofs.Ytokhgodcamhibaa.Rnd
open Go.RowKit Go.Proofs.Ytokhgodcamhibaa.QFnExactDoBinary Go.Proofs.Ytokhgodcamhibaa.Num Go.Proofs.YtokhgodcamhibaaW.PrintWords Go.Proofs.YtokhgodcamhibaaW.PrintMore Go.Proofs.Ytokhgodcamhibaa.Fl Ieee
set_option linter.unusedVariables false
set_option linter.unusedSimpArgs false
theorem pow_up {a r : Int} {k : Nat} (n : Nat) (h : spec_l03Pow.f k a = some r) : spec_l03Pow.f (k + n) a = some r := by
  induction n with
  | zero => exact h
  | succ n ih => exact spec_l03Pow.mono a (k + n) r ih
theorem pow_k {a r : Int} {k : Nat} (hk : 100 ≤ k) (h : spec_l03Pow.f 100 a = some r) : spec_l03Pow.f k a = some r := by
  obtain ⟨n, rfl⟩ : ∃ n, k = 100 + n := ⟨k - 100, by omega⟩
  exact pow_up n h
theorem pow63 : spec_l03Pow.f 100 63 = some 9223372036854775808 := by decide +kernel
theorem pow61 : spec_l03Pow.f 100 61 = some 2305843009213693952 := by decide +kernel
theorem pow56 : spec_l03Pow.f 100 56 = some 72057594037927936 := by decide +kernel
theorem sign_ok {k : Nat} (hk : 100 ≤ k) (b : Bool) (a : Nat) (h : a < 9223372036854775808) : spec_l03Sign.f k (a : Int) b = some ((double.word b a : Nat) : Int) := by
  unfold spec_l03Sign.f
  rw [word_eq]
  cases b
  · rw [if_neg Bool.false_ne_true, if_neg Bool.false_ne_true]
  · rw [if_pos rfl, if_pos rfl, pow_k hk pow63]
    simp only [Option.bind_some]
    rw [u64_id (by omega) (by omega)]
    congr 1
    omega
theorem j9_ok {k : Nat} (hk : 101 ≤ k) (b : Bool) (m : Nat) (e : Int) (h1 : m < 9007199254740992) (h2 : -1074 ≤ e) (he : e ≤ 6000) (h3 : 4503599627370496 ≤ m ∨ e = -1074) :
    spec_RoundTo.j9 k b (m : Int) e = some ((double.word b (min ((e + 1074).toNat * 4503599627370496 + m) 9218868437227405312) : Nat) : Int) := by
  obtain ⟨k, rfl⟩ : ∃ q, k = q + 1 := ⟨k - 1, by omega⟩
  simp only [spec_RoundTo.j9]
  by_cases c : m < 4503599627370496
  · have hc : (m : Int) < 4503599627370496 := by omega
    rw [if_pos hc, sign_ok (by omega) b m (by omega)]
    simp only [Option.bind_some]
    have : e = -1074 := by omega
    subst this
    rw [show ((-1074 : Int) + 1074).toNat = 0 by omega, Nat.zero_mul, Nat.zero_add, Nat.min_eq_left (by omega)]
  · have hc : ¬ (m : Int) < 4503599627370496 := by omega
    rw [if_neg hc]
    by_cases c2 : e > 971
    · rw [if_pos c2]
      have := sign_ok (k := k) (by omega) b 9218868437227405312 (by omega)
      rw [show ((9218868437227405312 : Nat) : Int) = 9218868437227405312 from rfl] at this
      rw [this, Nat.min_eq_right (by omega)]
      rfl
    · rw [if_neg c2, Nat.min_eq_left (by omega)]
      rw [wrap64_id (n := e + 1075) (by omega) (by omega), u64_id (n := e + 1075) (by omega) (by omega), u64_id (n := (e + 1075) * 4503599627370496) (by omega) (by omega), u64_id (n := (m : Int) - 4503599627370496) (by omega) (by omega), u64_id (by omega) (by omega)]
      rw [show (m : Int) - 4503599627370496 + (e + 1075) * 4503599627370496 = (((e + 1074).toNat * 4503599627370496 + m : Nat) : Int) by omega, sign_ok (by omega) b _ (by omega)]
      rfl
theorem j8_ok {k : Nat} (hk : 102 ≤ k) (b : Bool) (m : Nat) (e : Int) (h1 : m ≤ 9007199254740992) (h2 : -1074 ≤ e) (he : e ≤ 5999) (h3 : 4503599627370496 ≤ m ∨ e = -1074) :
    spec_RoundTo.j8 k b (m : Int) e = some ((double.word b (min ((e + 1074).toNat * 4503599627370496 + m) 9218868437227405312) : Nat) : Int) := by
  obtain ⟨k, rfl⟩ : ∃ q, k = q + 1 := ⟨k - 1, by omega⟩
  simp only [spec_RoundTo.j8]
  by_cases c : m = 9007199254740992
  · have hc : (m : Int) = 9007199254740992 := by omega
    rw [if_pos hc, wrap64_id (n := e + 1) (by omega) (by omega)]
    have := j9_ok (k := k) (by omega) b 4503599627370496 (e + 1) (by omega) (by omega) (by omega) (.inl (Nat.le_refl _))
    rw [show ((4503599627370496 : Nat) : Int) = 4503599627370496 from rfl] at this
    rw [this, show (e + 1 + 1074).toNat * 4503599627370496 + 4503599627370496 = (e + 1074).toNat * 4503599627370496 + m by omega]
  · have hc : ¬ (m : Int) = 9007199254740992 := by omega
    rw [if_neg hc]
    exact j9_ok (by omega) b m e (by omega) h2 (by omega) h3
theorem end_ok {k : Nat} (hk : 110 ≤ k) (b : Bool) (m : Nat) (e : Int) (h r : Bool) (hp : 0 < st m h r) (h1 : m < 9007199254740992) (h2 : -1074 ≤ e) (he : e ≤ 5999) (h3 : 4503599627370496 ≤ m ∨ e = -1074) :
    spec_RoundTo.l1 k b (m : Int) e h r = some ((double.nearest b (st m h r) (e - 2) : Nat) : Int) := by
  obtain ⟨k, rfl⟩ : ∃ q, k = q + 3 := ⟨k - 3, by omega⟩
  rw [round_end b m e h r hp h1 h2 h3]
  have hc : ¬ (m : Int) ≥ 9007199254740992 := by omega
  simp only [spec_RoundTo.l1]
  rw [if_neg hc, decide_eq_false (show ¬ e < -1074 by omega)]
  simp only [spec_RoundTo.j6, Bool.false_eq_true, if_false]
  have hm : Int.tmod (m : Int) 2 = ((m % 2 : Nat) : Int) := by rw [tmod_pos (by omega)]; omega
  have key : ∀ f : Bool, spec_RoundTo.j7 (k + 1) b (m : Int) e f = some ((double.word b (min ((e + 1074).toNat * 4503599627370496 + (m + if f = true then 1 else 0)) 9218868437227405312) : Nat) : Int) := by
    intro f
    simp only [spec_RoundTo.j7]
    cases f
    · rw [if_neg Bool.false_ne_true, if_neg Bool.false_ne_true]
      exact j8_ok (by omega) b m e (by omega) h2 he h3
    · rw [if_pos rfl, if_pos rfl, u64_id (by omega) (by omega)]
      have := j8_ok (k := k) (by omega) b (m + 1) e (by omega) h2 he (by omega)
      rw [show ((m + 1 : Nat) : Int) = (m : Int) + 1 by omega] at this
      exact this
  rw [hm]
  cases h
  · simp only [Bool.false_eq_true, if_false, false_and]
    rw [key false]
    simp only [Bool.false_eq_true, if_false]
  · cases r
    · simp only [if_true, Bool.false_eq_true, if_false, true_and, false_or]
      rw [key]
      rcases Nat.mod_two_eq_zero_or_one m with q | q <;> simp [q]
    · simp only [if_true, true_and, true_or]
      rw [key true]
      simp only [if_true]
theorem j6_true (k : Nat) (b : Bool) (m : Nat) (e : Int) (h r : Bool) (hm : m < 18446744073709551616) (he0 : -6000 ≤ e) (he1 : e ≤ 6000) :
    spec_RoundTo.j6 (k + 1) b (m : Int) e h r true = if m / 2 = 0 ∧ e + 1 < -1074 then spec_RoundTo.l1 k b ((0 : Nat) : Int) (-1074) false ((r || h) || decide (m % 2 = 1)) else spec_RoundTo.l1 k b ((m / 2 : Nat) : Int) (e + 1) (decide (m % 2 = 1)) (r || h) := by
  have e1 : IntKind.u64.wrap (Int.tdiv (m : Int) 2) = ((m / 2 : Nat) : Int) := by rw [tdiv_pos (by omega), u64_id (by omega) (by omega)]; omega
  have e2 : wrap64 (e + 1) = e + 1 := wrap64_id (by omega) (by omega)
  have e3 : (Int.tmod (m : Int) 2 == 1) = decide (m % 2 = 1) := by
    rw [tmod_pos (by omega), Bool.eq_iff_iff, beq_iff_eq, decide_eq_true_eq]; omega
  simp only [spec_RoundTo.j6, e1, e2, e3, if_true]
  generalize decide (m % 2 = 1) = odd
  by_cases c1 : m / 2 = 0
  · rw [c1]
    by_cases c2 : e + 1 < -1074
    · refine Eq.trans ?_ (if_pos ⟨rfl, c2⟩).symm
      cases h <;> cases r <;> cases odd <;> simp only [Bool.false_eq_true, if_false, if_true, if_pos c2, Int.natCast_zero, Bool.or_false, Bool.or_true, Bool.false_or]
    · refine Eq.trans ?_ (if_neg (fun hh => c2 hh.2)).symm
      cases h <;> cases r <;> simp only [Bool.false_eq_true, if_false, if_true, if_neg c2, Int.natCast_zero, Bool.or_false, Bool.or_true, Bool.false_or]
  · have c1' : ¬ ((m / 2 : Nat) : Int) = 0 := by omega
    refine Eq.trans ?_ (if_neg (fun hh => c1 hh.1)).symm
    cases h <;> cases r <;> simp only [Bool.false_eq_true, if_false, if_true, if_neg c1', Bool.or_false, Bool.or_true, Bool.false_or]
theorem l1_ok (b : Bool) : ∀ (n k m : Nat) (e : Int) (h r : Bool), 2 * n + 110 ≤ k → n ≤ 5000 → m < 2 ^ (53 + n) → m < 18446744073709551616 → -1074 - (n : Int) ≤ e → e + n ≤ 5999 → -5900 ≤ e → (4503599627370496 ≤ m ∨ e ≤ -1074) → 0 < st m h r →
    spec_RoundTo.l1 k b (m : Int) e h r = some ((double.nearest b (st m h r) (e - 2) : Nat) : Int)
  | 0, k, m, e, h, r, hk, _, h1, _, h2, he, _, h3, hp => end_ok (by omega) b m e h r hp h1 (by omega) (by omega) (by omega)
  | n + 1, k, m, e, h, r, hk, hn, h1, hm, h2, he, he0, h3, hp => by
    by_cases hc : 9007199254740992 ≤ m ∨ e < -1074
    · obtain ⟨k, rfl⟩ : ∃ q, k = q + 2 := ⟨k - 2, by omega⟩
      have hl : spec_RoundTo.l1 (k + 2) b (m : Int) e h r = spec_RoundTo.j6 (k + 1) b (m : Int) e h r true := by
        rw [spec_RoundTo.l1]
        by_cases c : (m : Int) ≥ 9007199254740992
        · rw [if_pos c]
        · rw [if_neg c, decide_eq_true (show e < -1074 by omega)]
      have h1' : m / 2 < 2 ^ (53 + n) := by rw [show 53 + (n + 1) = 53 + n + 1 by omega, Nat.pow_succ] at h1; omega
      rw [hl, j6_true k b m e h r hm (by omega) (by omega), round_down b m e h r hp hc]
      have hp2 := st_pos hp
      by_cases cj : m / 2 = 0 ∧ e + 1 < -1074
      · rw [if_pos cj, cj.1]
        rw [cj.1] at hp2
        rw [round_jump b (e + 1) (decide (m % 2 = 1)) (r || h) hp2 cj.2]
        refine l1_ok b n k 0 (-1074) false _ (by omega) (by omega) (Nat.two_pow_pos _) (by omega) (by omega) (by omega) (by omega) (.inr (Int.le_refl _)) ?_
        unfold st at hp2 ⊢
        generalize decide (m % 2 = 1) = odd at *
        cases odd <;> cases r <;> cases h <;> simp at hp2 ⊢
      · rw [if_neg cj]
        exact l1_ok b n k (m / 2) (e + 1) _ _ (by omega) (by omega) h1' (by omega) (by omega) (by omega) (by omega) (by omega) hp2
    · exact end_ok (by omega) b m e h r hp (by omega) (by omega) (by omega) (by omega)
theorem l0_ok (b : Bool) : ∀ (n k m : Nat) (e : Int) (s : Bool), n + 8300 ≤ k → 4503599627370496 ≤ m * 2 ^ n → m < 18446744073709551616 → 0 < m → -5000 - (52 - (n : Int)) ≤ e → e ≤ 5000 → n ≤ 52 → (s = true → 72057594037927936 ≤ m) →
    spec_RoundTo.l0 k b (m : Int) e s = some ((double.nearest b (st m false s) (e - 2) : Nat) : Int) := by
  have fin : ∀ (k m : Nat) (e : Int) (s : Bool), 8200 ≤ k → m < 18446744073709551616 → 0 < m → -5100 ≤ e → e ≤ 5000 → (4503599627370496 ≤ m ∨ e ≤ -1074) → spec_RoundTo.j4 k b (m : Int) e s = some ((double.nearest b (st m false s) (e - 2) : Nat) : Int) := by
    intro k m e s hk hm h0 h1 h2 h3
    obtain ⟨k, rfl⟩ : ∃ q, k = q + 1 := ⟨k - 1, by omega⟩
    simp only [spec_RoundTo.j4]
    rcases Int.lt_or_le e (-1074) with c | c
    · obtain ⟨n, hn⟩ : ∃ n, n = 4026 := ⟨_, rfl⟩
      refine l1_ok b n k m e false s (by omega) (by omega) ?_ hm (by omega) (by omega) (by omega) h3 (by unfold st; omega)
      exact Nat.lt_of_lt_of_le hm (Nat.le_trans (show 18446744073709551616 ≤ 2 ^ 64 by decide) (Nat.pow_le_pow_right (by decide) (by omega)))
    · refine l1_ok b 11 k m e false s (by omega) (by omega) (by omega) hm (by omega) (by omega) (by omega) h3 (by unfold st; omega)
  intro n
  induction n with
  | zero =>
    intro k m e s hk h1 hm h0 h2 h3 h4 hs
    obtain ⟨k, rfl⟩ : ∃ q, k = q + 1 := ⟨k - 1, by omega⟩
    simp only [spec_RoundTo.l0]
    rw [Nat.pow_zero, Nat.mul_one] at h1
    rw [if_neg (by omega)]
    exact fin k m e s (by omega) hm h0 (by omega) h3 (.inl h1)
  | succ n ih =>
    intro k m e s hk h1 hm h0 h2 h3 h4 hs
    obtain ⟨k, rfl⟩ : ∃ q, k = q + 1 := ⟨k - 1, by omega⟩
    simp only [spec_RoundTo.l0]
    by_cases c : m < 4503599627370496
    · have c' : (m : Int) < 4503599627370496 := by omega
      rw [if_pos c']
      by_cases c2 : e > -1074
      · have hs' : s = false := by
          cases s with
          | false => rfl
          | true => have := hs rfl; omega
        subst hs'
        rw [if_pos c2, u64_id (by omega) (by omega), wrap64_id (by omega) (by omega)]
        have := ih k (m * 2) (e - 1) false (by omega) (by rw [Nat.mul_assoc, show 2 * 2 ^ n = 2 ^ (n + 1) by rw [Nat.pow_succ]; omega]; exact h1) (by omega) (by omega) (by omega) (by omega) (by omega) (fun h => by cases h)
        rw [show ((m * 2 : Nat) : Int) = (m : Int) * 2 by omega] at this
        rw [this]
        congr 2
        exact near_eq b 0 1 (by unfold st; simp; omega) (by omega)
      · rw [if_neg c2]
        exact fin k m e s (by omega) hm h0 (by omega) h3 (.inr (by omega))
    · have c' : ¬ (m : Int) < 4503599627370496 := by omega
      rw [if_neg c']
      exact fin k m e s (by omega) hm h0 (by omega) h3 (.inl (by omega))
/-- The reference's 'RoundTo'. -/
theorem round_ok {k : Nat} (hk : 9000 ≤ k) (b : Bool) (m : Nat) (e : Int) (more : Bool) (hm : m < 18446744073709551616) (h0 : -5000 ≤ e) (h1 : e ≤ 5000) :
    spec_RoundTo.f k b (m : Int) e more = some ((rnd b m e more : Nat) : Int) := by
  obtain ⟨k, rfl⟩ : ∃ q, k = q + 3 := ⟨k - 3, by omega⟩
  unfold spec_RoundTo.f
  rw [if_neg (by omega)]
  simp only [spec_RoundTo.j0]
  rw [if_neg (by omega)]
  have key : ∀ s : Bool, (s = true → 72057594037927936 ≤ m) → s = (decide (72057594037927936 ≤ m) && more) → spec_RoundTo.j2 (k + 1) b (m : Int) e s = some ((rnd b m e more : Nat) : Int) := by
    intro s hs he
    simp only [spec_RoundTo.j2]
    by_cases c : m = 0
    · subst c
      rw [if_pos (by rfl)]
      have := sign_ok (k := k) (by omega) b 0 (by omega)
      rw [show ((0 : Nat) : Int) = 0 from rfl] at this
      rw [this]
      simp only [Option.bind_some]
      unfold rnd
      rw [show 2 * 0 + (decide (72057594037927936 ≤ 0) && more).toNat = 0 by simp, nearest_zero]
    · rw [if_neg (by omega), rnd_st, ← he]
      obtain ⟨n, hn, hn2⟩ : ∃ n, 4503599627370496 ≤ m * 2 ^ n ∧ n ≤ 52 := ⟨52, by omega, by omega⟩
      exact l0_ok b n k m e s (by omega) hn hm (by omega) (by omega) h1 hn2 hs
  simp only [spec_RoundTo.j1]
  cases more
  · rw [if_neg Bool.false_ne_true]
    exact key false (fun h => by cases h) (by simp)
  · rw [if_pos rfl, pow_k (by omega) pow56]
    simp only [Option.bind_some]
    exact key _ (fun h => by have := of_decide_eq_true h; omega) (by rw [Bool.and_true, Bool.eq_iff_iff, decide_eq_true_eq, decide_eq_true_eq]; omega)
end Go.Proofs.Ytokhgodcamhibaa.Rnd
end
section
namespace Go.Proofs.Ytokhgodcamhibaa.Rnd
open Go.RowKit Go.Proofs.Ytokhgodcamhibaa.QFnExactDoBinary Go.Proofs.Ytokhgodcamhibaa.Num Go.Proofs.YtokhgodcamhibaaW.PrintWords Go.Proofs.YtokhgodcamhibaaW.PrintMore Go.Proofs.Ytokhgodcamhibaa.Fl Ieee
set_option linter.unusedVariables false
set_option linter.unusedSimpArgs false
namespace P
theorem spec_parts {x : Int} (h0 : 0 ≤ x) (h1 : x < 18446744073709551616) : spec_PartsOfNumber.f 100 x = some (PN x) := by
  unfold spec_PartsOfNumber.f
  have hq := Int.emod_lt_of_pos x (show (0 : Int) < 4503599627370496 by omega)
  have hq0 := Int.emod_nonneg x (show (4503599627370496 : Int) ≠ 0 by omega)
  have e1 : wrap64 (Int.tmod (IntKind.u64.wrap (Int.tdiv x 4503599627370496)) 2048) = x / 4503599627370496 % 2048 := by
    rw [tdiv_pos h0, u64_id (by omega) (by omega), tmod_pos (by omega), wrap64_id (by omega) (by omega)]
  have e2 : Int.tmod x 4503599627370496 = x % 4503599627370496 := tmod_pos h0
  have e3 : IntKind.u64.wrap (Int.tdiv x 9223372036854775808) = x / 9223372036854775808 := by rw [tdiv_pos h0, u64_id (by omega) (by omega)]
  rw [pow63]
  simp only [Option.bind_some, e1, e2, e3]
  rw [if_neg (by omega)]
  unfold PN
  by_cases h2 : x / 4503599627370496 % 2048 = 2047
  · rw [if_pos h2, if_pos h2]
    by_cases h3 : x % 4503599627370496 = 0
    · simp only [spec_PartsOfNumber.j0, h3, bne_self_eq_false, Bool.false_eq_true, if_false, h2, if_true]
    · simp only [spec_PartsOfNumber.j0, (bne_iff_ne.mpr h3), if_true, if_neg h3]
  · rw [if_neg h2, if_neg h2]
    by_cases h4 : x / 4503599627370496 % 2048 = 0
    · by_cases h3 : x % 4503599627370496 = 0
      · simp [spec_PartsOfNumber.j0, spec_PartsOfNumber.j1, h4, h3]
      · simp [spec_PartsOfNumber.j0, spec_PartsOfNumber.j1, h4, h3]
    · rw [if_neg h4]
      simp only [spec_PartsOfNumber.j0, spec_PartsOfNumber.j1, Bool.false_eq_true, if_false, if_neg h2, if_neg h4]
      rw [u64_id (by omega) (by omega), wrap64_id (by omega) (by omega)]
end P
theorem sparts_k {X : Nat} (h : X < 18446744073709551616) {k : Nat} (hk : 100 ≤ k) : spec_PartsOfNumber.f k (X : Int) = some (PN (X : Int)) := by
  obtain ⟨n, rfl⟩ : ∃ n, k = 100 + n := ⟨k - 100, by omega⟩
  clear hk
  induction n with
  | zero => exact P.spec_parts (by omega) (by omega)
  | succ n ih => exact spec_PartsOfNumber.mono _ (100 + n) _ ih
/-- What the parts of a word are, and what it stands for. -/
inductive Kn : Int × Bool × Int × Int → Datum → Prop where
  | nan (s : Bool) (f : Nat) : Kn (1, false, 0, 0) (.nan s f)
  | inf (s : Bool) : Kn (2, s, 0, 0) (.infinity s)
  | zero (s : Bool) (p : Int) : Kn (3, s, 0, 0) (.number s 0 p)
  | fin (s : Bool) (m : Nat) (p : Int) (h0 : 0 < m) (h1 : m < 9007199254740992) (h2 : -1074 ≤ p) (h3 : p ≤ 971) : Kn (4, s, (m : Int), p) (.number s m p)
theorem sg_int {X : Nat} (h : X < 18446744073709551616) : ((X : Int) / 9223372036854775808 == 1) = sg X := by
  unfold sg
  rw [Bool.eq_iff_iff, beq_iff_eq, beq_iff_eq]
  omega
theorem PN_eq {X : Nat} (h : X < 18446744073709551616) : PN (X : Int) = if ex X = 2047 then (if fr X = 0 then (2, sg X, 0, 0) else (1, false, 0, 0)) else if mant X = 0 then (3, sg X, 0, 0) else (4, sg X, (mant X : Int), place X) := by
  unfold PN
  rw [sg_int h]
  have e1 : (X : Int) / 4503599627370496 % 2048 = (ex X : Int) := by unfold ex; omega
  have e2 : (X : Int) % 4503599627370496 = (fr X : Int) := by unfold fr; omega
  rw [e1, e2]
  have hf := fr_lt X
  unfold mant place
  by_cases a : ex X = 2047
  · rw [if_pos (by omega), if_pos a]
    by_cases b : fr X = 0
    · rw [if_pos (by omega), if_pos b]
    · rw [if_neg (by omega), if_neg b]
  · rw [if_neg (by omega), if_neg a]
    by_cases b : ex X = 0
    · simp only [if_pos b]
      rw [if_pos (by omega)]
      by_cases c : fr X = 0
      · rw [if_pos (by omega), if_pos c]
      · rw [if_neg (by omega), if_neg c]
    · simp only [if_neg b]
      rw [if_neg (by omega), if_neg (by omega)]
      congr 3
      omega
theorem kn {X : Nat} (h : X < 18446744073709551616) : Kn (PN (X : Int)) (double.read X) := by
  have h1 := ex_lt X
  by_cases a : ex X = 2047
  · have e : double.read X = if fr X = 0 then .infinity (sg X) else .nan (sg X) (fr X) := by rw [read_eq, if_neg (by omega)]
    rw [e, PN_eq h, if_pos a]
    by_cases b : fr X = 0
    · rw [if_pos b, if_pos b]; exact .inf _
    · rw [if_neg b, if_neg b]; exact .nan _ _
  · have e : double.read X = .number (sg X) (mant X) (place X) := by rw [read_eq, if_pos (by omega)]
    rw [e, PN_eq h, if_neg a]
    by_cases c : mant X = 0
    · rw [if_pos c, c]; exact .zero _ _
    · rw [if_neg c]; exact .fin _ _ _ (by omega) (mant_lt X) (place_ge X) (place_le (by omega))
theorem write_inf (s : Bool) : double.write (.infinity s) = double.word s 9218868437227405312 := by unfold Format.write; rw [c_inf]
theorem write_zero (s : Bool) (p : Int) : double.write (.number s 0 p) = double.word s 0 := nearest_zero s p
theorem sign_inf {k : Nat} (hk : 100 ≤ k) (b : Bool) : spec_l03Sign.f k 9218868437227405312 b = some ((double.word b 9218868437227405312 : Nat) : Int) := sign_ok hk b 9218868437227405312 (by omega)
theorem sign_zero {k : Nat} (hk : 100 ≤ k) (b : Bool) : spec_l03Sign.f k 0 b = some ((double.word b 0 : Nat) : Int) := sign_ok hk b 0 (by omega)
theorem wide_ok (a b : Nat) (ha : a < 18446744073709551616) (hb : b < 18446744073709551616) : spec_Wide.f (a : Int) (b : Int) = some (((a * b / 18446744073709551616 : Nat) : Int), ((a * b % 18446744073709551616 : Nat) : Int)) := by
  unfold spec_Wide.f
  obtain ⟨a1, a0, rfl, h1, h0⟩ : ∃ a1 a0, a = a1 * 4294967296 + a0 ∧ a1 < 4294967296 ∧ a0 < 4294967296 := ⟨a / 4294967296, a % 4294967296, by omega, by omega, by omega⟩
  obtain ⟨b1, b0, rfl, g1, g0⟩ : ∃ b1 b0, b = b1 * 4294967296 + b0 ∧ b1 < 4294967296 ∧ b0 < 4294967296 := ⟨b / 4294967296, b % 4294967296, by omega, by omega, by omega⟩
  have ea1 : IntKind.u64.wrap (Int.tdiv ((a1 * 4294967296 + a0 : Nat) : Int) 4294967296) = (a1 : Int) := by rw [tdiv_pos (by omega), u64_id (by omega) (by omega)]; omega
  have ea0 : Int.tmod ((a1 * 4294967296 + a0 : Nat) : Int) 4294967296 = (a0 : Int) := by rw [tmod_pos (by omega)]; omega
  have eb1 : IntKind.u64.wrap (Int.tdiv ((b1 * 4294967296 + b0 : Nat) : Int) 4294967296) = (b1 : Int) := by rw [tdiv_pos (by omega), u64_id (by omega) (by omega)]; omega
  have eb0 : Int.tmod ((b1 * 4294967296 + b0 : Nat) : Int) 4294967296 = (b0 : Int) := by rw [tmod_pos (by omega)]; omega
  have hprod : (a1 * 4294967296 + a0) * (b1 * 4294967296 + b0) = a1 * b1 * 18446744073709551616 + (a1 * b0 + a0 * b1) * 4294967296 + a0 * b0 := by
    rw [Nat.add_mul, Nat.mul_add, Nat.mul_add, show a1 * 4294967296 * (b1 * 4294967296) = a1 * b1 * 18446744073709551616 by rw [Nat.mul_mul_mul_comm], show a1 * 4294967296 * b0 = a1 * b0 * 4294967296 by rw [Nat.mul_right_comm], show a0 * (b1 * 4294967296) = a0 * b1 * 4294967296 by rw [Nat.mul_assoc], Nat.add_mul]
    omega
  rw [ea1, ea0, eb1, eb0, hprod]
  have bd : ∀ x y : Nat, x < 4294967296 → y < 4294967296 → x * y ≤ 18446744065119617025 := fun x y hx hy => Nat.mul_le_mul (show x ≤ 4294967295 by omega) (show y ≤ 4294967295 by omega)
  have p11 := bd a1 b1 h1 g1
  have p10 := bd a1 b0 h1 g0
  have p01 := bd a0 b1 h0 g1
  have p00 := bd a0 b0 h0 g0
  rw [← Int.natCast_mul, ← Int.natCast_mul, ← Int.natCast_mul, ← Int.natCast_mul]
  have hhi : a1 * b1 * 18446744073709551616 + (a1 * b0 + a0 * b1) * 4294967296 + a0 * b0 < 18446744073709551616 * 18446744073709551616 := by
    rw [← hprod]
    exact Nat.mul_lt_mul_of_lt_of_le ha (Nat.le_of_lt hb) (by decide)
  generalize a1 * b1 = P at *
  generalize a1 * b0 = Q at *
  generalize a0 * b1 = R at *
  generalize a0 * b0 = S at *
  have u := fun (n : Nat) (h : n < 18446744073709551616) => u64_id (n := (n : Int)) (by omega) (by omega)
  rw [u P (by omega), u Q (by omega), u R (by omega), u S (by omega)]
  have eS : IntKind.u64.wrap (Int.tdiv (S : Int) 4294967296) = ((S / 4294967296 : Nat) : Int) := by rw [tdiv_pos (by omega), u64_id (by omega) (by omega)]; omega
  have eS2 : Int.tmod (S : Int) 4294967296 = ((S % 4294967296 : Nat) : Int) := by rw [tmod_pos (by omega)]; omega
  rw [eS, eS2]
  have eM : IntKind.u64.wrap ((Q : Int) + ((S / 4294967296 : Nat) : Int)) = ((Q + S / 4294967296 : Nat) : Int) := by rw [u64_id (by omega) (by omega)]; omega
  rw [eM]
  obtain ⟨M, hM⟩ : ∃ M, M = Q + S / 4294967296 := ⟨_, rfl⟩
  rw [← hM]
  have eM1 : IntKind.u64.wrap (Int.tdiv (M : Int) 4294967296) = ((M / 4294967296 : Nat) : Int) := by rw [tdiv_pos (by omega), u64_id (by omega) (by omega)]; omega
  have eM2 : Int.tmod (M : Int) 4294967296 = ((M % 4294967296 : Nat) : Int) := by rw [tmod_pos (by omega)]; omega
  rw [eM1, eM2]
  have eO : IntKind.u64.wrap ((R : Int) + ((M % 4294967296 : Nat) : Int)) = ((R + M % 4294967296 : Nat) : Int) := by rw [u64_id (by omega) (by omega)]; omega
  rw [eO]
  obtain ⟨O, hO⟩ : ∃ O, O = R + M % 4294967296 := ⟨_, rfl⟩
  rw [← hO]
  have eO1 : IntKind.u64.wrap (Int.tdiv (O : Int) 4294967296) = ((O / 4294967296 : Nat) : Int) := by rw [tdiv_pos (by omega), u64_id (by omega) (by omega)]; omega
  rw [eO1]
  have e1 : IntKind.u64.wrap ((P : Int) + ((M / 4294967296 : Nat) : Int)) = ((P + M / 4294967296 : Nat) : Int) := by rw [u64_id (by omega) (by omega)]; omega
  rw [e1]
  have hsum : P * 18446744073709551616 + (Q + R) * 4294967296 + S = (P + M / 4294967296 + O / 4294967296) * 18446744073709551616 + (O % 4294967296 * 4294967296 + S % 4294967296) := by omega
  congr 2
  · rw [u64_id (by omega) (by omega)]; omega
  · rw [IntKind.wrap_u64, IntKind.wrap_u64]; omega
theorem mul_l0 (s : Bool) : ∀ (n k H low : Nat) (e : Int) (more : Bool), n + 9010 ≤ k → H < 2 ^ n → n ≤ 64 → H < 18446744073709551616 → low < 18446744073709551616 → -3000 - (n : Int) ≤ e → e + n ≤ 3000 → (more = true → 9223372036854775808 ≤ H * 18446744073709551616 + low) →
    spec_Mul.l0 k s (H : Int) (low : Int) e more = some ((double.nearest s (2 * (H * 18446744073709551616 + low) + more.toNat) (e - 1) : Nat) : Int) := by
  have fin : ∀ (k low : Nat) (e : Int) (more : Bool), 9005 ≤ k → low < 18446744073709551616 → -4000 ≤ e → e ≤ 4000 → (more = true → 9223372036854775808 ≤ low) → spec_Mul.l0 k s ((0 : Nat) : Int) (low : Int) e more = some ((double.nearest s (2 * (0 * 18446744073709551616 + low) + more.toNat) (e - 1) : Nat) : Int) := by
    intro k low e more hk hl h1 h2 hm
    obtain ⟨k, rfl⟩ : ∃ q, k = q + 1 := ⟨k - 1, by omega⟩
    simp only [spec_Mul.l0]
    rw [if_neg (by omega), round_ok (by omega) s low e more hl (by omega) (by omega)]
    simp only [Option.bind_some]
    congr 2
    rw [Nat.zero_mul, Nat.zero_add]
    cases more
    · rw [rnd_false]
      exact near_eq s 1 0 (by show low * 2 ^ 1 = (2 * low + 0) * 2 ^ 0; omega) (by omega)
    · exact rnd_more s e true (by have := hm rfl; omega)
  intro n
  induction n with
  | zero =>
    intro k H low e more hk hH hn hH2 hl h1 h2 hm
    have : H = 0 := by omega
    subst this
    exact fin k low e more (by omega) hl (by omega) (by omega) (fun h => by have := hm h; omega)
  | succ n ih =>
    intro k H low e more hk hH hn hH2 hl h1 h2 hm
    by_cases c : H = 0
    · subst c
      exact fin k low e more (by omega) hl (by omega) (by omega) (fun h => by have := hm h; omega)
    · obtain ⟨k, rfl⟩ : ∃ q, k = q + 1 := ⟨k - 1, by omega⟩
      have e1 : IntKind.u64.wrap (Int.tdiv (H : Int) 2) = ((H / 2 : Nat) : Int) := by rw [tdiv_pos (by omega), u64_id (by omega) (by omega)]; omega
      have e2 : Int.tmod (H : Int) 2 = ((H % 2 : Nat) : Int) := by rw [tmod_pos (by omega)]; omega
      have e3 : IntKind.u64.wrap (Int.tdiv (low : Int) 2) = ((low / 2 : Nat) : Int) := by rw [tdiv_pos (by omega), u64_id (by omega) (by omega)]; omega
      have e4 : (Int.tmod (low : Int) 2 == 1) = decide (low % 2 = 1) := by rw [tmod_pos (by omega), Bool.eq_iff_iff, beq_iff_eq, decide_eq_true_eq]; omega
      have e5 : IntKind.u64.wrap (((H % 2 : Nat) : Int) * 9223372036854775808) = ((H % 2 * 9223372036854775808 : Nat) : Int) := by rw [u64_id (by omega) (by omega)]; omega
      have e6 : IntKind.u64.wrap (((low / 2 : Nat) : Int) + ((H % 2 * 9223372036854775808 : Nat) : Int)) = ((low / 2 + H % 2 * 9223372036854775808 : Nat) : Int) := by rw [u64_id (by omega) (by omega)]; omega
      simp only [spec_Mul.l0]
      rw [if_pos (by omega), pow_k (by omega) pow63]
      simp only [Option.bind_some, e1, e2, e3, e4, e5, e6, wrap64_id (n := e + 1) (by omega) (by omega)]
      have hh : H / 2 < 2 ^ n := by rw [Nat.pow_succ] at hH; omega
      have hX : (H * 18446744073709551616 + low) / 2 = H / 2 * 18446744073709551616 + (low / 2 + H % 2 * 9223372036854775808) := by omega
      have hO : (H * 18446744073709551616 + low) % 2 = low % 2 := by omega
      have key := halve s (H * 18446744073709551616 + low) more e (by omega)
      rw [key, hX, hO]
      have fin2 : ∀ mo : Bool, mo = (more || decide (low % 2 = 1)) → spec_Mul.l0 k s ((H / 2 : Nat) : Int) ((low / 2 + H % 2 * 9223372036854775808 : Nat) : Int) (e + 1) mo = some ((double.nearest s (2 * (H / 2 * 18446744073709551616 + (low / 2 + H % 2 * 9223372036854775808)) + (more || decide (low % 2 = 1)).toNat) (e + 1 - 1) : Nat) : Int) := by
        rintro mo rfl
        exact ih k (H / 2) (low / 2 + H % 2 * 9223372036854775808) (e + 1) _ (by omega) hh (by omega) (by omega) (by omega) (by omega) (by omega) (fun _ => by omega)
      cases more
      · simp only [Bool.false_eq_true, if_false]
        exact fin2 _ (by simp)
      · simp only [if_true]
        exact fin2 _ (by simp)
theorem xor_ne (s t : Bool) : (s != t) = (s ^^ t) := by cases s <;> cases t <;> rfl
theorem mul_ok {k : Nat} (hk : 9200 ≤ k) {X Y : Nat} (hX : X < 18446744073709551616) (hY : Y < 18446744073709551616) : spec_Mul.f k (X : Int) (Y : Int) = some (opW (double.mul X Y)) := by
  obtain ⟨k, rfl⟩ : ∃ q, k = q + 4 := ⟨k - 4, by omega⟩
  unfold spec_Mul.f Format.mul
  rw [sparts_k hX (by omega), sparts_k hY (by omega)]
  have a := kn hX
  have b := kn hY
  simp only [Option.bind_some]
  generalize PN (X : Int) = p at a
  generalize PN (Y : Int) = q at b
  generalize double.read X = d at a
  generalize double.read Y = d2 at b
  cases a <;> cases b <;> simp (config := { decide := true }) only [if_true, if_false, spec_Mul.j0, spec_Mul.j1, spec_Mul.j2, Datum.product, Option.map_none, Option.map_some, opW, Option.getD_none, Option.getD_some, sign_inf (k := k + 2) (by omega), sign_inf (k := k + 3) (by omega), sign_zero (k := k + 1) (by omega), sign_zero (k := k + 2) (by omega), Option.bind_some, write_inf, xor_ne]
  all_goals try rfl
  case inf.fin s t m p h0 h1 h2 h3 => rw [if_neg (by omega), Option.map_some, write_inf, Option.getD_some]
  case zero.fin s p0 t m p h0 h1 h2 h3 => rw [Nat.zero_mul, write_zero]
  case fin.inf s m p h0 h1 h2 h3 t => rw [if_neg (by omega), Option.map_some, write_inf, Option.getD_some, Bool.xor_comm]
  case fin.fin s m i h0 h1 h2 h3 t n j g0 g1 g2 g3 =>
    have hmn : m * n < 9007199254740992 * 9007199254740992 := Nat.mul_lt_mul_of_lt_of_le h1 (Nat.le_of_lt g1) (by decide)
    rw [wide_ok m n (by omega) (by omega), Option.bind_some, wrap64_id (n := i + j) (by omega) (by omega)]
    have key := mul_l0 (s ^^ t) 64 (k + 1) (m * n / 18446744073709551616) (m * n % 18446744073709551616) (i + j) false (by omega) (by omega) (by omega) (by omega) (by omega) (by omega) (by omega) (fun h => by cases h)
    show spec_Mul.l0 (k + 1) (s ^^ t) _ _ (i + j) false = _
    rw [key]
    show some _ = some ((double.nearest (s ^^ t) (m * n) (i + j) : Nat) : Int)
    congr 2
    exact near_eq _ 0 1 (by show (2 * (m * n / 18446744073709551616 * 18446744073709551616 + m * n % 18446744073709551616) + 0) * 2 ^ 0 = m * n * 2 ^ 1; omega) (by omega)
end Go.Proofs.Ytokhgodcamhibaa.Rnd
end
section
namespace Go.Proofs.Ytokhgodcamhibaa.Rnd
open Go.RowKit Go.Proofs.Ytokhgodcamhibaa.QFnExactDoBinary Go.Proofs.Ytokhgodcamhibaa.Num Go.Proofs.YtokhgodcamhibaaW.PrintWords Go.Proofs.YtokhgodcamhibaaW.PrintMore Go.Proofs.Ytokhgodcamhibaa.Fl Ieee
set_option linter.unusedVariables false
set_option linter.unusedSimpArgs false
theorem write_read {X : Nat} (h : X < 18446744073709551616) (hn : (double.read X).isNaN = false) : double.write (double.read X) = X := by
  rw [read_eq] at hn ⊢
  have h1 := ex_lt X
  by_cases a : ex X < 2047
  · rw [if_pos a]
    exact nearest_self h a
  · rw [if_neg a] at hn ⊢
    by_cases b : fr X = 0
    · rw [if_pos b, write_inf, word_eq]
      unfold sg
      unfold ex at a h1
      unfold fr at b
      by_cases c : 9223372036854775808 ≤ X
      · rw [if_pos (by rw [beq_iff_eq]; omega)]; omega
      · rw [if_neg (by rw [beq_iff_eq]; omega)]; omega
    · rw [if_neg b] at hn
      cases hn
theorem sum_zero_left (s t : Bool) (n : Nat) (i j : Int) (hn : 0 < n) : (Datum.sum (.number s 0 i) (.number t n j)).map double.write = some (double.write (.number t n j)) := by
  unfold Datum.sum
  simp only [Option.map_some]
  congr 1
  rw [signed_eq, signed_eq]
  obtain ⟨b, hb⟩ : ∃ b, b = min i j := ⟨_, rfl⟩
  rw [← hb, Nat.zero_mul]
  have hp : 0 < n * 2 ^ (j - b).toNat := Nat.mul_pos hn (Nat.two_pow_pos _)
  have key := nearest_scale t n (j - b).toNat b
  rw [show b + ((j - b).toNat : Int) = j by omega] at key
  show double.nearest _ _ b = double.nearest t n j
  rw [← key]
  generalize n * 2 ^ (j - b).toNat = N at hp
  cases s <;> cases t <;> simp only [Bool.false_eq_true, if_false, if_true]
  · rw [if_neg (by omega), decide_eq_false (by omega)]; congr 1; omega
  · rw [if_neg (by omega), decide_eq_true (by omega)]; congr 1; omega
  · rw [if_neg (by omega), decide_eq_false (by omega)]; congr 1; omega
  · rw [if_neg (by omega), decide_eq_true (by omega)]; congr 1; omega
theorem sum_zeros (s t : Bool) (i j : Int) : (Datum.sum (.number s 0 i) (.number t 0 j)).map double.write = some (double.word (s && t) 0) := by
  unfold Datum.sum
  simp only [Option.map_some]
  congr 1
  rw [signed_eq, signed_eq, Nat.zero_mul, Nat.zero_mul]
  cases s <;> cases t <;> exact nearest_zero _ _
section
variable (s : Bool) (M : Nat) (t : Bool) (n K : Nat) (E : Int) (a1 a2 a3 b3 b4 b5 : Int)
/-- The end of the sum: what is rounded. -/
theorem addEnd (hM0 : 0 < M) (hM : M < 4611686018427387904) (hK : 2305843009213693952 ≤ M ∨ K = 0) (hn : n < 9007199254740992) (hE0 : -4000 ≤ E) (hE1 : E ≤ 4000) (i : Int) (hi : ¬ i < E) {k : Nat} (hk : 9100 ≤ k) :
    spec_Add.l1 k (M : Int) E ((n / 2 ^ K : Nat) : Int) (decide (n % 2 ^ K ≠ 0)) i a1 s a2 a3 b3 t b4 b5 = some ((addF s M t n K E : Nat) : Int) := by
  obtain ⟨k, rfl⟩ : ∃ q, k = q + 2 := ⟨k - 2, by omega⟩
  simp only [spec_Add.l1]
  rw [if_neg hi]
  have hd : n / 2 ^ K ≤ n := Nat.div_le_self _ _
  have hlost : n % 2 ^ K ≠ 0 → 2305843009213693952 ≤ M := by
    intro h
    rcases hK with c | c
    · exact c
    · subst c; rw [Nat.pow_zero, Nat.mod_one] at h; exact absurd rfl h
  unfold addF
  generalize n / 2 ^ K = q at *
  generalize n % 2 ^ K = r at *
  by_cases c : s = t
  · rw [if_pos c, if_pos (by rw [c]; exact beq_self_eq_true t), u64_id (by omega) (by omega), show (M : Int) + (q : Int) = ((M + q : Nat) : Int) by omega, round_ok (by omega) s (M + q) E _ (by omega) (by omega) (by omega)]
    rfl
  · rw [if_neg c, if_neg (by rw [beq_iff_eq]; exact c)]
    have j8 : ∀ f : Bool, f = false → spec_Add.j8 (k + 1) (M : Int) E (q : Int) (decide (r ≠ 0)) f a1 s a2 a3 b3 t b4 b5 = some ((if M < q then rnd t (q - M) E false else if r ≠ 0 then rnd s (M - q - 1) E true else rnd s (M - q) E false : Nat) : Int) := by
      rintro f rfl
      simp only [spec_Add.j8, Bool.false_eq_true, if_false]
      by_cases d : M < q
      · rw [if_pos (by omega), if_pos d, u64_id (by omega) (by omega), show (q : Int) - (M : Int) = ((q - M : Nat) : Int) by omega, round_ok (by omega) t (q - M) E false (by omega) (by omega) (by omega)]
        rfl
      · rw [if_neg (by omega), if_neg d]
        by_cases e : r ≠ 0
        · have := hlost e
          rw [decide_eq_true e, if_pos rfl, if_pos e, u64_id (n := (M : Int) - (q : Int)) (by omega) (by omega), u64_id (by omega) (by omega), show (M : Int) - (q : Int) - 1 = ((M - q - 1 : Nat) : Int) by omega, round_ok (by omega) s (M - q - 1) E true (by omega) (by omega) (by omega)]
          rfl
        · rw [decide_eq_false e, if_neg Bool.false_ne_true, if_neg e, u64_id (n := (M : Int) - (q : Int)) (by omega) (by omega), show (M : Int) - (q : Int) = ((M - q : Nat) : Int) by omega, round_ok (by omega) s (M - q) E false (by omega) (by omega) (by omega)]
          rfl
    by_cases d : M = q
    · rw [if_pos (by omega)]
      by_cases e : r = 0
      · rw [if_pos ⟨d, e⟩]
        have : (!decide (r ≠ 0)) = true := by simp [e]
        rw [this]
        simp only [spec_Add.j8, if_true]
        rfl
      · rw [if_neg (fun h => e h.2)]
        exact j8 _ (by simp [e])
    · rw [if_neg (by omega), if_neg (fun h => d h.1)]
      exact j8 false rfl
theorem addDown (hM0 : 0 < M) (hM : M < 4611686018427387904) (hK : 2305843009213693952 ≤ M ∨ K = 0) (hn : n < 9007199254740992) (hn0 : 0 < n) (hE0 : -4000 ≤ E) (hE1 : E ≤ 4000) (j : Int) (hj : E = j + K) (hj0 : -4000 ≤ j) :
    ∀ (d k c : Nat), c + d = K → d + 9110 ≤ k → spec_Add.l1 k (M : Int) E ((n / 2 ^ c : Nat) : Int) (decide (n % 2 ^ c ≠ 0)) (j + c) a1 s a2 a3 b3 t b4 b5 = some ((addF s M t n K E : Nat) : Int)
  | 0, k, c, hc, hk => by
    have : c = K := by omega
    subst this
    exact addEnd s M t n c E a1 a2 a3 b3 b4 b5 hM0 hM hK hn hE0 hE1 _ (by omega) (by omega)
  | d + 1, k, c, hc, hk => by
    obtain ⟨k, rfl⟩ : ∃ q, k = q + 1 := ⟨k - 1, by omega⟩
    have hp : 2 ^ (c + 1) = 2 ^ c * 2 := Nat.pow_succ ..
    have e0 : n / 2 ^ c / 2 = n / 2 ^ (c + 1) := by rw [Nat.div_div_eq_div_mul, hp]
    have e1 : IntKind.u64.wrap (Int.tdiv ((n / 2 ^ c : Nat) : Int) 2) = ((n / 2 ^ (c + 1) : Nat) : Int) := by
      have := Nat.div_le_self n (2 ^ c)
      rw [← e0]
      generalize n / 2 ^ c = q0 at this
      rw [tdiv_pos (by omega), u64_id (by omega) (by omega)]; omega
    have e2 : Int.tmod ((n / 2 ^ c : Nat) : Int) 2 = ((n / 2 ^ c % 2 : Nat) : Int) := by
      generalize n / 2 ^ c = q0
      rw [tmod_pos (by omega)]; omega
    have e3 : n % 2 ^ (c + 1) = n % 2 ^ c + 2 ^ c * (n / 2 ^ c % 2) := by rw [hp]; exact Nat.mod_mul
    have hpc : 0 < 2 ^ c := Nat.two_pow_pos _
    have e4 : decide (n % 2 ^ (c + 1) ≠ 0) = (decide (n % 2 ^ c ≠ 0) || (((n / 2 ^ c % 2 : Nat) : Int) == 1)) := by
      rw [e3]
      rcases Nat.mod_two_eq_zero_or_one (n / 2 ^ c) with q | q
      · rw [q, Nat.mul_zero, Nat.add_zero]; simp
      · rw [q, Nat.mul_one]
        rw [decide_eq_true (by omega)]; simp
    have next := addDown hM0 hM hK hn hn0 hE0 hE1 j hj hj0 d k (c + 1) (by omega) (by omega)
    rw [show j + ((c + 1 : Nat) : Int) = j + c + 1 by omega, e4] at next
    have early : n / 2 ^ (c + 1) = 0 → spec_Add.l1 k (M : Int) E ((0 : Nat) : Int) true (E + 1) a1 s a2 a3 b3 t b4 b5 = some ((addF s M t n K E : Nat) : Int) := by
      intro h
      have hlt : n < 2 ^ K := by
        have h1 : n < 2 ^ (c + 1) := by
          rcases Nat.lt_or_ge n (2 ^ (c + 1)) with g | g
          · exact g
          · have := Nat.div_pos g (Nat.two_pow_pos _); omega
        exact Nat.lt_of_lt_of_le h1 (Nat.pow_le_pow_right (by decide) (by omega))
      have := addEnd s M t n K E a1 a2 a3 b3 b4 b5 hM0 hM hK hn hE0 hE1 (E + 1) (by omega) (k := k) (by omega)
      rw [Nat.div_eq_of_lt hlt, Nat.mod_eq_of_lt hlt, decide_eq_true (by omega)] at this
      exact this
    simp only [spec_Add.l1]
    rw [if_pos (show j + (c : Int) < E by omega), e1, e2, wrap64_id (n := E + 1) (by omega) (by omega), wrap64_id (n := j + (c : Int) + 1) (by omega) (by omega)]
    generalize decide (n % 2 ^ c ≠ 0) = lost at *
    generalize n / 2 ^ (c + 1) = q at *
    generalize n / 2 ^ c % 2 = o at *
    cases lost
    · simp only [Bool.false_eq_true, if_false, Bool.false_or] at next ⊢
      by_cases g : q = 0
      · have g' : ((q : Nat) : Int) = 0 := by omega
        rw [if_pos g']
        by_cases g2 : (o : Int) = 1
        · rw [if_pos g2, show ((o : Int) == 1) = true from beq_iff_eq.mpr g2, g]
          exact early g
        · rw [if_neg g2]
          exact next
      · rw [if_neg (by omega)]
        exact next
    · simp only [if_true, Bool.true_or] at next ⊢
      by_cases g : q = 0
      · rw [if_pos (by omega), g]
        exact early g
      · rw [if_neg (by omega)]
        exact next
end
theorem addStop (s : Bool) (m : Nat) (t : Bool) (n : Nat) (i j : Int) (a1 a2 a3 b3 : Int) (hm : 0 < m) (hn0 : 0 < n) (hn : n < 9007199254740992) (hj : -1074 ≤ j) (hi : i ≤ 971) (k a M : Nat) (hM : M = m * 2 ^ a) (h1 : 2305843009213693952 ≤ M ∨ i - a = j) (h2 : M < 4611686018427387904) (h3 : j ≤ i - a) (hk : 11900 ≤ k) :
    spec_Add.j6 k (M : Int) (i - a) a1 s a2 a3 b3 t (n : Int) j = some (opW ((Datum.sum (.number s m i) (.number t n j)).map double.write)) := by
  obtain ⟨k, rfl⟩ : ∃ q, k = q + 1 := ⟨k - 1, by omega⟩
  obtain ⟨K, hK⟩ : ∃ K : Nat, (K : Int) = i - a - j := ⟨(i - a - j).toNat, by omega⟩
  have hp : 0 < M := by rw [hM]; exact Nat.mul_pos hm (Nat.two_pow_pos _)
  simp only [spec_Add.j6]
  have key := addDown s M t n K (i - a) a1 a2 a3 b3 (n : Int) j hp h2 (h1.imp_right (fun h => by omega)) hn hn0 (by omega) (by omega) j (by omega) (by omega) K k 0 (by omega) (by omega)
  rw [Nat.pow_zero, Nat.div_one, Nat.mod_one, show decide ((0 : Nat) ≠ 0) = false from rfl, show j + ((0 : Nat) : Int) = j by omega] at key
  rw [key, ← addF_sum s m a t n K i j (by omega) (by rw [← hM]; exact h1.imp_right (fun h => by omega)) hm hn0 hn, hM]
  rfl
theorem addUp (s : Bool) (m : Nat) (t : Bool) (n : Nat) (i j : Int) (a1 a2 a3 b3 : Int) (hm : 0 < m) (hn0 : 0 < n) (hn : n < 9007199254740992) (hj : -1074 ≤ j) (hi : i ≤ 971) :
    ∀ (d k a M : Nat), M = m * 2 ^ a → 2305843009213693952 ≤ M * 2 ^ d → M < 4611686018427387904 → j ≤ i - a → d + 12000 ≤ k →
      spec_Add.l0 k (M : Int) (i - a) a1 s a2 a3 b3 t (n : Int) j = some (opW ((Datum.sum (.number s m i) (.number t n j)).map double.write))
  | 0, k, a, M, hM, h1, h2, h3, hk => by
    obtain ⟨k, rfl⟩ : ∃ q, k = q + 1 := ⟨k - 1, by omega⟩
    rw [Nat.pow_zero, Nat.mul_one] at h1
    simp only [spec_Add.l0]
    rw [pow_k (by omega) pow61, Option.bind_some]
    have hge : ¬ (M : Int) < 2305843009213693952 := by omega
    rw [if_neg hge]
    exact addStop s m t n i j a1 a2 a3 b3 hm hn0 hn hj hi k a M hM (.inl h1) h2 h3 (by omega)
  | d + 1, k, a, M, hM, h1, h2, h3, hk => by
    have e2 : M * 2 * 2 ^ d = M * 2 ^ (d + 1) := by rw [Nat.mul_assoc, Nat.pow_succ, Nat.mul_comm 2]
    rw [← e2] at h1
    clear e2
    have H1 := Aside0.mk h1
    clear h1
    obtain ⟨k, rfl⟩ : ∃ q, k = q + 1 := ⟨k - 1, by omega⟩
    simp only [spec_Add.l0]
    rw [pow_k (by omega) pow61, Option.bind_some]
    by_cases c : M < 2305843009213693952
    · rw [if_pos (by omega)]
      by_cases c2 : i - a > j
      · rw [if_pos c2, wrap64_id (n := i - a - 1) (by omega) (by omega)]
        have e : M * 2 = m * 2 ^ (a + 1) := by rw [Nat.pow_succ, ← Nat.mul_assoc, ← hM]
        have key := addUp s m t n i j a1 a2 a3 b3 hm hn0 hn hj hi d k (a + 1) (M * 2) e H1.out (by omega) (by omega) (by omega)
        rw [show i - ((a + 1 : Nat) : Int) = i - a - 1 by omega, show ((M * 2 : Nat) : Int) = (M : Int) * 2 by omega] at key
        rw [u64_id (by omega) (by omega)]
        exact key
      · rw [if_neg c2]
        exact addStop s m t n i j a1 a2 a3 b3 hm hn0 hn hj hi k a M hM (.inr (by omega)) h2 h3 (by omega)
    · rw [if_neg (by omega)]
      exact addStop s m t n i j a1 a2 a3 b3 hm hn0 hn hj hi k a M hM (.inl (by omega)) h2 h3 (by omega)
theorem addJ4 (s : Bool) (m : Nat) (t : Bool) (n : Nat) (i j : Int) (a1 b3 : Int) (hm : 0 < m) (hm1 : m < 9007199254740992) (hn0 : 0 < n) (hn : n < 9007199254740992) (hj : -1074 ≤ j) (hi : i ≤ 971) (h : j ≤ i) {k : Nat} (hk : 12100 ≤ k) :
    spec_Add.j4 k a1 s (m : Int) i b3 t (n : Int) j = some (opW ((Datum.sum (.number s m i) (.number t n j)).map double.write)) := by
  obtain ⟨k, rfl⟩ : ∃ q, k = q + 1 := ⟨k - 1, by omega⟩
  simp only [spec_Add.j4]
  have key := addUp s m t n i j a1 (m : Int) i b3 hm hn0 hn hj hi 61 k 0 m (by rw [Nat.pow_zero, Nat.mul_one]) (by omega) (by omega) (by omega) (by omega)
  rw [show i - ((0 : Nat) : Int) = i by omega] at key
  exact key
theorem add_ok {k : Nat} (hk : 12200 ≤ k) {X Y : Nat} (hX : X < 18446744073709551616) (hY : Y < 18446744073709551616) : spec_Add.f k (X : Int) (Y : Int) = some (opW (double.add X Y)) := by
  obtain ⟨k, rfl⟩ : ∃ q, k = q + 4 := ⟨k - 4, by omega⟩
  unfold spec_Add.f Format.add
  rw [sparts_k hX (by omega), sparts_k hY (by omega)]
  have a := kn hX
  have b := kn hY
  have wX := write_read hX
  have wY := write_read hY
  simp only [Option.bind_some]
  generalize PN (X : Int) = p at a
  generalize PN (Y : Int) = q at b
  generalize double.read X = d at a wX
  generalize double.read Y = d2 at b wY
  cases a <;> cases b <;> simp (config := { decide := true }) only [if_true, if_false, spec_Add.j0, spec_Add.j1, spec_Add.j2]
  all_goals try rfl
  case inf.inf s t =>
    rw [← show double.write (.infinity s) = X from wX rfl]
    unfold Datum.sum
    cases s <;> cases t <;> rfl
  case inf.zero s t i => rw [← show double.write (.infinity s) = X from wX rfl]; rfl
  case inf.fin s t n j g0 g1 g2 g3 => rw [← show double.write (.infinity s) = X from wX rfl]; rfl
  case zero.inf s i t => rw [← show double.write (.infinity t) = Y from wY rfl]; rfl
  case fin.inf s m i h0 h1 h2 h3 t => rw [← show double.write (.infinity t) = Y from wY rfl]; rfl
  case zero.zero s i t j =>
    have eX : double.word s 0 = X := by rw [← write_zero s i]; exact wX rfl
    rw [sum_zeros, ← eX]
    cases s <;> cases t <;> rfl
  case zero.fin s i t n j g0 g1 g2 g3 =>
    rw [sum_zero_left s t n i j g0, show double.write (.number t n j) = Y from wY rfl]
    rfl
  case fin.zero s m i h0 h1 h2 h3 t j =>
    rw [sum_comm, sum_zero_left t s m j i h0, show double.write (.number s m i) = X from wX rfl]
    rfl
  case fin.fin s m i h0 h1 h2 h3 t n j g0 g1 g2 g3 =>
    have j3 : ∀ f : Bool, (f = true → i ≤ j) → (f = false → j ≤ i) → spec_Add.j3 (k + 1) f 4 s (m : Int) i 4 t (n : Int) j = some (opW ((Datum.sum (.number s m i) (.number t n j)).map double.write)) := by
      intro f ht hf
      simp only [spec_Add.j3]
      cases f
      · rw [if_neg Bool.false_ne_true]
        exact addJ4 s m t n i j 4 4 h0 h1 g0 g1 g2 h3 (hf rfl) (by omega)
      · rw [if_pos rfl, sum_comm]
        exact addJ4 t n s m j i 4 4 g0 g1 h0 h1 h2 g3 (ht rfl) (by omega)
    by_cases c : i < j
    · rw [if_pos c]
      exact j3 true (fun _ => by omega) (fun h => by cases h)
    · rw [if_neg c]
      by_cases c2 : i = j
      · rw [if_pos c2]
        exact j3 _ (fun _ => by omega) (fun _ => by omega)
      · rw [if_neg c2]
        exact j3 false (fun h => by cases h) (fun _ => by omega)
end Go.Proofs.Ytokhgodcamhibaa.Rnd
end
section
namespace Go.Proofs.Ytokhgodcamhibaa.Rnd
open Go.RowKit Go.Proofs.Ytokhgodcamhibaa.QFnExactDoBinary Go.Proofs.Ytokhgodcamhibaa.Num Go.Proofs.YtokhgodcamhibaaW.PrintWords Go.Proofs.YtokhgodcamhibaaW.PrintMore Go.Proofs.Ytokhgodcamhibaa.Fl Ieee
set_option linter.unusedVariables false
set_option linter.unusedSimpArgs false
theorem up_ok (k0 : Int) (s : Bool) : ∀ (d k m : Nat) (i : Int), 4503599627370496 ≤ m * 2 ^ d → m < 9007199254740992 → d + 100 ≤ k → -3000 + (d : Int) ≤ i → i ≤ 3000 →
    ∃ a, a ≤ d ∧ 4503599627370496 ≤ m * 2 ^ a ∧ m * 2 ^ a < 9007199254740992 ∧ spec_l05Up.l0 k k0 s (m : Int) i = some (k0, s, ((m * 2 ^ a : Nat) : Int), i - a)
  | 0, k, m, i, h1, h2, hk, h3, h4 => by
    obtain ⟨k, rfl⟩ : ∃ q, k = q + 1 := ⟨k - 1, by omega⟩
    rw [Nat.pow_zero, Nat.mul_one] at h1
    refine ⟨0, Nat.le_refl _, by rw [Nat.pow_zero, Nat.mul_one]; exact h1, by rw [Nat.pow_zero, Nat.mul_one]; exact h2, ?_⟩
    rw [spec_l05Up.l0, if_neg (by omega), Nat.pow_zero, Nat.mul_one, show i - ((0 : Nat) : Int) = i by omega]
  | d + 1, k, m, i, h1, h2, hk, h3, h4 => by
    obtain ⟨k, rfl⟩ : ∃ q, k = q + 1 := ⟨k - 1, by omega⟩
    by_cases c : m < 4503599627370496
    · have e1 : m * 2 * 2 ^ d = m * 2 ^ (d + 1) := by rw [Nat.mul_assoc, Nat.pow_succ, Nat.mul_comm 2]
      rw [← e1] at h1
      obtain ⟨a, ha, q1, q2, q3⟩ := up_ok k0 s d k (m * 2) (i - 1) h1 (by omega) (by omega) (by omega) (by omega)
      have e2 : m * 2 * 2 ^ a = m * 2 ^ (a + 1) := by rw [Nat.mul_assoc, Nat.pow_succ, Nat.mul_comm 2]
      rw [e2] at q1 q2 q3
      refine ⟨a + 1, by omega, q1, q2, ?_⟩
      rw [spec_l05Up.l0, if_pos (by omega), u64_id (by omega) (by omega), wrap64_id (by omega) (by omega)]
      rw [show ((m * 2 : Nat) : Int) = (m : Int) * 2 by omega] at q3
      rw [q3, show i - 1 - (a : Int) = i - ((a + 1 : Nat) : Int) by omega]
    · refine ⟨0, by omega, by rw [Nat.pow_zero, Nat.mul_one]; omega, by rw [Nat.pow_zero, Nat.mul_one]; exact h2, ?_⟩
      rw [spec_l05Up.l0, if_neg (by omega), Nat.pow_zero, Nat.mul_one, show i - ((0 : Nat) : Int) = i by omega]
theorem few_bits {P Q N c left : Nat} (hQ : 4503599627370496 ≤ Q) (hP : P < 9007199254740992) (h : P * 2 ^ c = 2 * (N * Q) + left) : N < 2 ^ c := by
  have hp : 0 < 2 ^ c := Nat.two_pow_pos _
  have h1 : P * 2 ^ c < 2 * Q * 2 ^ c := Nat.mul_lt_mul_of_pos_right (by omega) hp
  have h2 : N * (2 * Q) < 2 ^ c * (2 * Q) := by
    rw [Nat.mul_comm (2 ^ c), show N * (2 * Q) = 2 * (N * Q) by rw [Nat.mul_left_comm]]
    omega
  exact Nat.lt_of_mul_lt_mul_right h2
theorem div_l0 (s t : Bool) (P Q : Nat) (kq jq : Int) (hP : P < 9007199254740992) (hQ : 4503599627370496 ≤ Q) (hQ2 : Q < 9007199254740992) :
    ∀ (d k c N left : Nat) (e : Int), c + d = 62 → d + 9200 ≤ k → P * 2 ^ c = 2 * (N * Q) + left → left < 2 * Q → (0 < c → left % 2 = 0) → -4000 ≤ e - d → e ≤ 4000 →
      ∃ N' left', P * 2 ^ 62 = 2 * (N' * Q) + left' ∧ left' < 2 * Q ∧ left' % 2 = 0 ∧ spec_Div.l0 k s (left : Int) (N : Int) e (c : Int) kq t (Q : Int) jq = some ((rnd s N' (if c = 0 then e - 61 else e - d) (decide (0 < left')) : Nat) : Int)
  | 0, k, c, N, left, e, hc, hk, h, hl, hev, he, he2 => by
    obtain ⟨k, rfl⟩ : ∃ q, k = q + 1 := ⟨k - 1, by omega⟩
    have hc2 : c = 62 := by omega
    subst hc2
    have hN := few_bits hQ hP h
    refine ⟨N, left, h, hl, hev (by omega), ?_⟩
    rw [spec_Div.l0, if_neg (by omega), if_neg (by decide), show decide ((left : Int) > 0) = decide (0 < left) by rw [decide_eq_decide]; omega, round_ok (by omega) s N e _ (by omega) (by omega) (by omega), Option.bind_some, show e - ((0 : Nat) : Int) = e by omega]
  | d + 1, k, c, N, left, e, hc, hk, h, hl, hev, he, he2 => by
    obtain ⟨k, rfl⟩ : ∃ q, k = q + 1 := ⟨k - 1, by omega⟩
    have hN := few_bits hQ hP h
    have hN62 : N < 4611686018427387904 := Nat.lt_of_lt_of_le hN (Nat.le_trans (Nat.pow_le_pow_right (by decide) (show c ≤ 62 by omega)) (by decide))
    have hp : P * 2 ^ (c + 1) = 2 * (P * 2 ^ c) := by rw [Nat.pow_succ, ← Nat.mul_assoc, Nat.mul_comm]
    have fin : ∀ (N1 left1 : Nat), P * 2 ^ (c + 1) = 2 * (N1 * Q) + left1 → left1 < 2 * Q → left1 % 2 = 0 →
        ∃ N' left', P * 2 ^ 62 = 2 * (N' * Q) + left' ∧ left' < 2 * Q ∧ left' % 2 = 0 ∧ spec_Div.l0 k s (left1 : Int) (N1 : Int) (if (c : Int) > 0 then e - 1 else e) ((c : Int) + 1) kq t (Q : Int) jq = some ((rnd s N' (if c = 0 then e - 61 else e - ((d + 1 : Nat) : Int)) (decide (0 < left')) : Nat) : Int) := by
      intro N1 left1 g1 g2 g3
      by_cases c0 : c = 0
      · obtain ⟨N', left', r1, r2, r3, r4⟩ := div_l0 s t P Q kq jq hP hQ hQ2 d k (c + 1) N1 left1 e (by omega) (by omega) g1 g2 (fun _ => g3) (by omega) (by omega)
        refine ⟨N', left', r1, r2, r3, ?_⟩
        rw [if_neg (by omega)] at r4
        rw [if_neg (by omega), if_pos c0, show (c : Int) + 1 = ((c + 1 : Nat) : Int) by omega, r4, show e - (d : Int) = e - 61 by omega]
      · obtain ⟨N', left', r1, r2, r3, r4⟩ := div_l0 s t P Q kq jq hP hQ hQ2 d k (c + 1) N1 left1 (e - 1) (by omega) (by omega) g1 g2 (fun _ => g3) (by omega) (by omega)
        refine ⟨N', left', r1, r2, r3, ?_⟩
        rw [if_neg (by omega)] at r4
        rw [if_pos (by omega), if_neg c0, show (c : Int) + 1 = ((c + 1 : Nat) : Int) by omega, r4, show e - 1 - (d : Int) = e - ((d + 1 : Nat) : Int) by omega]
    have hstep : ∀ (x9 x8 : Int), (if (c : Int) > 0 then spec_Div.l0 k s x8 x9 (wrap64 (e - 1)) (wrap64 ((c : Int) + 1)) kq t (Q : Int) jq else spec_Div.l0 k s x8 x9 e (wrap64 ((c : Int) + 1)) kq t (Q : Int) jq) = spec_Div.l0 k s x8 x9 (if (c : Int) > 0 then e - 1 else e) ((c : Int) + 1) kq t (Q : Int) jq := by
      intro x9 x8
      rw [wrap64_id (n := (c : Int) + 1) (by omega) (by omega), wrap64_id (n := e - 1) (by omega) (by omega)]
      by_cases c0 : (c : Int) > 0
      · rw [if_pos c0, if_pos c0]
      · rw [if_neg c0, if_neg c0]
    rw [spec_Div.l0, if_pos (by omega)]
    by_cases g : Q ≤ left
    · obtain ⟨N', left', r1, r2, r3, r4⟩ := fin (N * 2 + 1) ((left - Q) * 2) (by rw [hp, h, Nat.add_mul, Nat.mul_right_comm]; omega) (by omega) (by omega)
      refine ⟨N', left', r1, r2, r3, ?_⟩
      rw [if_pos (by omega), hstep, u64_id (n := (left : Int) - (Q : Int)) (by omega) (by omega), u64_id (n := ((left : Int) - (Q : Int)) * 2) (by omega) (by omega), u64_id (n := (N : Int) * 2) (by omega) (by omega), u64_id (n := (N : Int) * 2 + 1) (by omega) (by omega), ← r4, show (((left - Q) * 2 : Nat) : Int) = ((left : Int) - (Q : Int)) * 2 by omega, show ((N * 2 + 1 : Nat) : Int) = (N : Int) * 2 + 1 by omega]
    · obtain ⟨N', left', r1, r2, r3, r4⟩ := fin (N * 2) (left * 2) (by rw [hp, h, Nat.mul_right_comm]; omega) (by omega) (by omega)
      refine ⟨N', left', r1, r2, r3, ?_⟩
      rw [if_neg (by omega), hstep, u64_id (n := (left : Int) * 2) (by omega) (by omega), u64_id (n := (N : Int) * 2) (by omega) (by omega), ← r4, show ((left * 2 : Nat) : Int) = (left : Int) * 2 by omega, show ((N * 2 : Nat) : Int) = (N : Int) * 2 by omega]
theorem div_fin_ok (s t : Bool) (m n : Nat) (i j : Int) (h0 : 0 < m) (h1 : m < 9007199254740992) (h2 : -1074 ≤ i) (h3 : i ≤ 971) (g0 : 0 < n) (g1 : n < 9007199254740992) (g2 : -1074 ≤ j) (g3 : j ≤ 971) {k : Nat} (hk : 9300 ≤ k) :
    ((spec_l05Up.f k 4 s (m : Int) i).bind fun b1 => (spec_l05Up.f k 4 t (n : Int) j).bind fun b2 => spec_Div.l0 k (s ^^ t) b1.2.2.1 0 (wrap64 (b1.2.2.2 - b2.2.2.2)) 0 b2.1 b2.2.1 b2.2.2.1 b2.2.2.2) = some (opW ((Datum.quotient 54 (.number s m i) (.number t n j)).map double.write)) := by
  obtain ⟨a, ha, p1, p2, p3⟩ := up_ok 4 s 52 k m i (by omega) h1 (by omega) (by omega) (by omega)
  obtain ⟨c, hc, q1, q2, q3⟩ := up_ok 4 t 52 k n j (by omega) g1 (by omega) (by omega) (by omega)
  unfold spec_l05Up.f
  rw [p3, q3, Option.bind_some, Option.bind_some]
  obtain ⟨P, hP⟩ : ∃ P, P = m * 2 ^ a := ⟨_, rfl⟩
  obtain ⟨Q, hQ⟩ : ∃ Q, Q = n * 2 ^ c := ⟨_, rfl⟩
  rw [← hP] at p1 p2 ⊢
  rw [← hQ] at q1 q2 ⊢
  obtain ⟨N, left, r1, r2, r3, r4⟩ := div_l0 (s ^^ t) t P Q 4 (j - c) p2 q1 q2 62 k 0 0 P (i - a - (j - c)) (by omega) (by omega) (by rw [Nat.pow_zero, Nat.mul_one, Nat.zero_mul]; omega) (by omega) (fun h => absurd h (by omega)) (by omega) (by omega)
  rw [if_pos rfl, show ((0 : Nat) : Int) = 0 from rfl] at r4
  show spec_Div.l0 k (s ^^ t) (P : Int) 0 (wrap64 (i - a - (j - c))) 0 4 t (Q : Int) (j - c) = _
  rw [wrap64_id (by omega) (by omega), r4]
  have hb : 72057594037927936 ≤ N := by
    rcases Nat.lt_or_ge N 72057594037927936 with g | g
    · exfalso
      have e1 : N * Q ≤ 72057594037927936 * 9007199254740992 := Nat.mul_le_mul (Nat.le_of_lt g) (Nat.le_of_lt q2)
      have e2 : 4503599627370496 * 2 ^ 62 ≤ P * 2 ^ 62 := Nat.mul_le_mul_right _ p1
      rw [r1, show (2 : Nat) ^ 62 = 4611686018427387904 from by decide] at e2
      omega
    · exact g
  have key := div_fin s t m n a c N left i j h0 g0 h1 (by rw [← hP, ← hQ, r1, Nat.mul_assoc]) (by rw [← hQ]; exact r2) r3 hb (by omega)
  rw [← key]
  rfl
theorem div_ok {k : Nat} (hk : 9400 ≤ k) {X Y : Nat} (hX : X < 18446744073709551616) (hY : Y < 18446744073709551616) : spec_Div.f k (X : Int) (Y : Int) = some (opW (double.div X Y)) := by
  obtain ⟨k, rfl⟩ : ∃ q, k = q + 4 := ⟨k - 4, by omega⟩
  unfold spec_Div.f Format.div
  rw [sparts_k hX (by omega), sparts_k hY (by omega)]
  have a := kn hX
  have b := kn hY
  rw [Option.bind_some, Option.bind_some]
  generalize PN (X : Int) = p at a
  generalize PN (Y : Int) = q at b
  generalize double.read X = d at a
  generalize double.read Y = d2 at b
  cases a <;> cases b <;> simp (config := { decide := true }) only [if_true, if_false, spec_Div.j0, spec_Div.j1, spec_Div.j2, sign_inf (k := k + 2) (by omega), sign_inf (k := k + 3) (by omega), sign_zero (k := k + 1) (by omega), sign_zero (k := k + 2) (by omega), Option.bind_some, xor_ne]
  case fin.fin s m i h0 h1 h2 h3 t n j g0 g1 g2 g3 => exact div_fin_ok s t m n i j h0 h1 h2 h3 g0 g1 g2 g3 (by omega)
  case zero.fin s i t n j g0 g1 g2 g3 =>
    have e : Datum.quotient 54 (.number s 0 i) (.number t n j) = some (.number (s ^^ t) 0 (i - j - (54 + n.log2 - (0 : Nat).log2 : Nat) - 1)) := by
      unfold Datum.quotient
      dsimp only
      rw [if_neg (by omega)]
      simp only [Nat.zero_shiftLeft, Nat.zero_div, Nat.zero_mod]
      rfl
    show _ = some (opW ((Datum.quotient 54 _ _).map double.write))
    rw [e, Option.map_some, write_zero]
    rfl
  case fin.zero s m i h0 h1 h2 h3 t j =>
    have e : Datum.quotient 54 (.number s m i) (.number t 0 j) = some (.infinity (s ^^ t)) := by
      unfold Datum.quotient
      dsimp only
      rw [if_pos rfl, if_neg (by omega)]
    show _ = some (opW ((Datum.quotient 54 _ _).map double.write))
    rw [e, Option.map_some, write_inf]
    rfl
  case inf.zero s t j => show _ = some (opW (some (double.write (.infinity (s ^^ t))))); rw [write_inf]; rfl
  case inf.fin s t n j g0 g1 g2 g3 => show _ = some (opW (some (double.write (.infinity (s ^^ t))))); rw [write_inf]; rfl
  case zero.inf s i t => show _ = some (opW (some (double.write (.number (s ^^ t) 0 0)))); rw [write_zero]; rfl
  case fin.inf s m i h0 h1 h2 h3 t => show _ = some (opW (some (double.write (.number (s ^^ t) 0 0)))); rw [write_zero]; rfl
  all_goals rfl
theorem rem_l0 (s : Bool) (m n : Nat) (i j : Int) (k0 k1 : Int) (t : Bool) (mm : Int) (hn0 : 0 < n) (hn : n < 9007199254740992) (hi : i ≤ 971) (hj : -1074 ≤ j) (h : j ≤ i) :
    ∀ (d k c : Nat), j + c + d = i → d + 9100 ≤ k → spec_Rem.l0 k ((m * 2 ^ c % n : Nat) : Int) (j + c) k0 s mm i k1 t (n : Int) j = some ((double.nearest s (m * 2 ^ (i - j).toNat % n) j : Nat) : Int)
  | 0, k, c, hc, hk => by
    obtain ⟨k, rfl⟩ : ∃ q, k = q + 1 := ⟨k - 1, by omega⟩
    have hlt : m * 2 ^ c % n < n := Nat.mod_lt _ hn0
    rw [spec_Rem.l0, if_neg (by omega), round_ok (by omega) s _ j false (by omega) (by omega) (by omega), Option.bind_some, rnd_false, show (i - j).toNat = c by omega]
  | d + 1, k, c, hc, hk => by
    obtain ⟨k, rfl⟩ : ∃ q, k = q + 1 := ⟨k - 1, by omega⟩
    have hlt : m * 2 ^ c % n < n := Nat.mod_lt _ hn0
    have next := rem_l0 s m n i j k0 k1 t mm hn0 hn hi hj h d k (c + 1) (by omega) (by omega)
    have e : m * 2 ^ (c + 1) % n = m * 2 ^ c % n * 2 % n := by rw [Nat.pow_succ, ← Nat.mul_assoc, Nat.mod_mul_mod]
    rw [e] at next
    rw [spec_Rem.l0, if_pos (by omega), if_neg (by omega), ← next]
    generalize m * 2 ^ c % n = x at hlt
    rw [u64_id (by omega) (by omega), tmod_pos (by omega), wrap64_id (by omega) (by omega), show ((x * 2 % n : Nat) : Int) = (x : Int) * 2 % (n : Int) by rw [Int.natCast_emod, Int.natCast_mul]; rfl, show j + ((c + 1 : Nat) : Int) = j + c + 1 by omega]
theorem rem_l1 (s : Bool) (m n : Nat) (i j : Int) (k0 k1 x0 : Int) (t : Bool) (mm nn : Int) (hm : m < 9007199254740992) (hn0 : 0 < n) (hi : -1074 ≤ i) (hj : j ≤ 971) (h : i ≤ j)
    (hx : m < n * 2 ^ (j - i).toNat → x0 = ((double.nearest s (m % (n * 2 ^ (j - i).toNat)) i : Nat) : Int)) :
    ∀ (d k c M : Nat), M = n * 2 ^ c → i + c + d = j → d + 9100 ≤ k → M < 18014398509481984 →
      spec_Rem.l1 k x0 (m : Int) (M : Int) (i + c) k0 s mm i k1 t nn j = some ((double.nearest s (m % (n * 2 ^ (j - i).toNat)) i : Nat) : Int)
  | 0, k, c, M, hM, hc, hk, hM2 => by
    obtain ⟨k, rfl⟩ : ∃ q, k = q + 1 := ⟨k - 1, by omega⟩
    have hp : 0 < M := by rw [hM]; exact Nat.mul_pos hn0 (Nat.two_pow_pos _)
    have hlt : m % M < M := Nat.mod_lt _ hp
    rw [spec_Rem.l1, if_neg (by omega), if_neg (by omega), show (j - i).toNat = c by omega, ← hM]
    rw [tmod_pos (by omega), show (m : Int) % (M : Int) = ((m % M : Nat) : Int) by rw [Int.natCast_emod], round_ok (by omega) s _ i false (by omega) (by omega) (by omega), Option.bind_some, rnd_false]
  | d + 1, k, c, M, hM, hc, hk, hM2 => by
    obtain ⟨k, rfl⟩ : ∃ q, k = q + 1 := ⟨k - 1, by omega⟩
    rw [spec_Rem.l1, if_pos (by omega)]
    by_cases g : m < M
    · have hle : M ≤ n * 2 ^ (j - i).toNat := by
        rw [hM]
        exact Nat.mul_le_mul_left _ (Nat.pow_le_pow_right (by decide) (by omega))
      rw [if_pos (by omega), hx (Nat.lt_of_lt_of_le g hle)]
    · have e : M * 2 = n * 2 ^ (c + 1) := by rw [hM, Nat.pow_succ, Nat.mul_assoc]
      have next := rem_l1 s m n i j k0 k1 x0 t mm nn hm hn0 hi hj h hx d k (c + 1) (M * 2) e (by omega) (by omega) (by omega)
      rw [if_neg (by omega), ← next, u64_id (by omega) (by omega), wrap64_id (by omega) (by omega), show ((M * 2 : Nat) : Int) = (M : Int) * 2 by omega, show i + ((c + 1 : Nat) : Int) = i + c + 1 by omega]
theorem rem_ok {k : Nat} (hk : 12000 ≤ k) {X Y : Nat} (hX : X < 18446744073709551616) (hY : Y < 18446744073709551616) : spec_Rem.f k (X : Int) (Y : Int) = some (remI X Y) := by
  obtain ⟨k, rfl⟩ : ∃ q, k = q + 4 := ⟨k - 4, by omega⟩
  unfold spec_Rem.f remI
  rw [sparts_k hX (by omega), sparts_k hY (by omega)]
  have a := kn hX
  have b := kn hY
  rw [Option.bind_some, Option.bind_some]
  generalize PN (X : Int) = p at a
  generalize PN (Y : Int) = q at b
  generalize hd : double.read X = d at a
  generalize hd2 : double.read Y = d2 at b
  cases a <;> cases b <;> simp (config := { decide := true }) only [if_true, if_false, spec_Rem.j0, spec_Rem.j1]
  case zero.fin s i t n j g0 g1 g2 g3 => rw [if_neg (by omega)]
  case fin.fin s m i h0 h1 h2 h3 t n j g0 g1 g2 g3 =>
    obtain ⟨a1, a2, a3, a4⟩ := read_fin hd
    obtain ⟨b1, b2, b3, b4⟩ := read_fin hd2
    have hV : V X = m * 2 ^ (i + 1074).toNat := by unfold V; rw [a3, a4]
    have hV2 : V Y = n * 2 ^ (j + 1074).toNat := by unfold V; rw [b3, b4]
    have hW : remW X Y = double.nearest s (m * 2 ^ (i + 1074).toNat % (n * 2 ^ (j + 1074).toNat)) (-1074) := by unfold remW; rw [a2, hV, hV2]
    rw [if_neg (show ¬ n = 0 by omega), if_neg (show ¬ m = 0 by omega)]
    by_cases c : i ≥ j
    · rw [if_pos c, if_neg (by omega), hW, ← rem_up s m n i j g2 c]
      have key := rem_l0 s m n i j 4 4 t (m : Int) g0 g1 h3 g2 c (i - j).toNat (k + 2) 0 (by omega) (by omega)
      rw [Nat.pow_zero, Nat.mul_one, show j + ((0 : Nat) : Int) = j by omega] at key
      rw [tmod_pos (by omega), show (m : Int) % (n : Int) = ((m % n : Nat) : Int) by rw [Int.natCast_emod]]
      exact key
    · rw [if_neg c, hW, ← rem_down s m n i j h2 (by omega)]
      have key := rem_l1 s m n i j 4 4 (X : Int) t (m : Int) (n : Int) h1 g0 h2 g3 (by omega) (fun hlt => by
        rw [rem_down s m n i j h2 (by omega), ← hW, remW_less hX a1 ?_]
        rw [hV, hV2]
        have hp : 0 < 2 ^ (i + 1074).toNat := Nat.two_pow_pos _
        have := Nat.mul_lt_mul_of_pos_right hlt hp
        rw [Nat.mul_assoc n, ← Nat.pow_add, show (j - i).toNat + (i + 1074).toNat = (j + 1074).toNat by omega] at this
        exact this) (j - i).toNat (k + 2) 0 n (by rw [Nat.pow_zero, Nat.mul_one]) (by omega) (by omega) (by omega)
      rw [show i + ((0 : Nat) : Int) = i by omega] at key
      exact key
end Go.Proofs.Ytokhgodcamhibaa.Rnd
end
