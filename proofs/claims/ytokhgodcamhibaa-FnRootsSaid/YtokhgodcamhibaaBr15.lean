/- Part 15 of the proof: general lemmas, contracts of functions, walks. No condition of its own. -/
import Derived.Test.YtokhgodcamhibaaBr14
import Derived.Test.YtokhgodcamhibaaBr12
import Derived.Test.YtokhgodcamhibaaBr13
import Derived.Test.YtokhgodcamhibaaBr1
import Derived.Test.YtokhgodcamhibaaBr11
import Derived.Test.YtokhgodcamhibaaBr5
section
namespace Go.Proofs.Ytokhgodcamhibaa.QFnRoots
open Go.RowKit Go.Proofs.YtokhgodcamhibaaW.PrintWords Go.Proofs.YtokhgodcamhibaaW.PrintLast Go.Proofs.YtokhgodcamhibaaW.PrintMore Go.Proofs.Ytokhgodcamhibaa.QFnExactDoBinary Go.Proofs.Ytokhgodcamhibaa.QFnQuotients
attribute [local go_sem] max_two min_two max_three min_three max_four min_four run_field34_0 max2_mx min2_mn   -- for this text's walks alone
set_option linter.unusedVariables false
set_option linter.unusedSimpArgs false
def spec_l01Once.f (s0_0 : List Int) (s0_1 : Int) (s0_2 : Int) (a1 : Int) : Option (Bool × Int × Int) := (spec_l01Below.f s0_0 s0_1 s0_2 a1).bind fun bt147 => (some ((bt147.1 == 0), bt147.2.1, bt147.2.2))
set_option maxHeartbeats 8000000 in
set_option maxRecDepth 100000 in
theorem spec_l01Once.calls (g : Nat) (s0_0 : List Int) (s0_1 : Int) (s0_2 : Int) (a1 : Int) (r1 : Bool) (r2 : Int) (r3 : Int) (w0 w : World) (hI : IsS75 w0 w g s0_0 s0_1 s0_2) (hB : Below w0.heap.size w0 w) (h : spec_l01Once.f s0_0 s0_1 s0_2 a1 = some (r1, r2, r3)) :
    Calls Try.prog 71 #[.pointer (some ⟨g, 0, none⟩), .int .i64 a1] w fun e w' => e = .returned (.bool r1) ∧ IsS75 w0 w' g s0_0 r2 r3 ∧ Below w0.heap.size w0 w' ∧ KeepBut w w' g none := by
  have HI0 := Aside0.mk hI
  have HK := Aside0.mk (KeepBut.refl w g none)
  have HL := Aside0.mk hB.size
  clear hI
  have HW0 := Aside0.mk hB.size
  have HB := Aside0.mk hB
  clear hB
  have H : ((spec_l01Below.f s0_0 s0_1 s0_2 a1).bind fun bt147 => (some ((bt147.1 == 0), bt147.2.1, bt147.2.2))) = some (r1, r2, r3) := h
  clear h
  replace H := Option.bind_eq_some_iff.mp H
  obtain ⟨⟨t147, t148, t149⟩, A30, H⟩ := H
  replace H : (some ((t147 == 0), t148, t149)) = some (r1, r2, r3) := H
  have A3 := Aside0.mk A30
  clear A30
  simp only [Option.some.injEq, Prod.mk.injEq] at H
  obtain ⟨rfl, rfl, rfl⟩ := H
  go_enter Try.func71, Try.ntmps71
  go_wp2_with (first | ((with_reducible refine gate_callee (f := 31) rfl ?_); refine goesL_ (some 7) rfl rfl Try.func31 (by kernel_rfl) rfl #[.pointer (some ⟨g, 0, none⟩), .int .i64 a1] rfl (by (try simp only [List.map_toArray, List.map_cons, List.map_nil]); first | done | rfl | (simp only [List.length_drop, List.length_take]; rfl)) ?_; (with_reducible refine (spec_l01Below.calls g s0_0 s0_1 s0_2 a1 t147 t148 t149 w0 _ ?side1 ?side2 A3.out).mono ?_); (case side1 => repeat (first | (with_reducible first | exact HI0.out | apply IsS75.alloc | apply IsS75.drewN | apply IsS75.drew | apply IsS75.set_1 | apply IsS75.set_2) | exact HI0.out)); (case side2 => repeat (first | (with_reducible first | exact HB.out | apply below_alloc | apply pw_below_drewN | apply below_drew1 | refine below_set ?_ (IsS75.ge HI0.out)) | exact HB.out)); rintro e w4 ⟨rfl, hi, hb, hk⟩; refine ⟨_, rfl, ?_⟩; have n0_ := Aside0.mk (KeepBut.trans (by repeat (first | (with_reducible first | exact HK.out | apply KeepBut.set_ | apply keep_drewN | apply keep_drew | apply keep_alloc) | exact HK.out)) hk (.inl rfl)); have n1_ := Aside0.mk (hb); have n2_ := Aside0.mk (hi); clear HK; clear HB; clear HI0; have HK := n0_; have HB := n1_; have HI0 := n2_; clear n0_ n1_ n2_; (try clear hb); (try clear hb2); (try clear hk); (try clear hi)))
  go_ret
  exact ⟨by first | rfl | (simp; done) | (simp [errW_none, errW_some] <;> rfl) | (simp [*, errW_none, errW_some] <;> rfl) | (simp [bne, List.isEmpty_iff]; done) | (rw [Bool.eq_iff_iff]; simp), by repeat (first | (with_reducible first | exact HI0.out | apply IsS75.alloc | apply IsS75.drewN | apply IsS75.drew | apply IsS75.set_1 | apply IsS75.set_2) | exact HI0.out), by repeat (first | (with_reducible first | exact HB.out | apply below_alloc | apply pw_below_drewN | apply below_drew1 | refine below_set ?_ (IsS75.ge HI0.out)) | exact HB.out), by repeat (first | (with_reducible first | exact HK.out | apply KeepBut.set_ | apply keep_drewN | apply keep_drew | apply keep_alloc) | exact HK.out)⟩
def spec_l03Bits64.f (s0_0 : List Int) (s0_1 : Int) (s0_2 : Int) : Option (Int × Int × Int) := (spec_l01Below.f s0_0 s0_1 s0_2 4294967296).bind fun bt150 => ((spec_l01Below.f s0_0 bt150.2.1 bt150.2.2 4294967296).bind fun bt153 => (some (IntKind.u64.wrap ((IntKind.u64.wrap ((IntKind.u64.wrap (bt150.1)) * 4294967296)) + (IntKind.u64.wrap (bt153.1))), bt153.2.1, bt153.2.2)))
set_option maxHeartbeats 8000000 in
set_option maxRecDepth 100000 in
theorem spec_l03Bits64.calls (g : Nat) (s0_0 : List Int) (s0_1 : Int) (s0_2 : Int) (r1 : Int) (r2 : Int) (r3 : Int) (w0 w : World) (hI : IsS75 w0 w g s0_0 s0_1 s0_2) (hB : Below w0.heap.size w0 w) (h : spec_l03Bits64.f s0_0 s0_1 s0_2 = some (r1, r2, r3)) :
    Calls Try.prog 72 #[.pointer (some ⟨g, 0, none⟩)] w fun e w' => e = .returned (.int .u64 r1) ∧ IsS75 w0 w' g s0_0 r2 r3 ∧ Below w0.heap.size w0 w' ∧ KeepBut w w' g none := by
  have HI0 := Aside0.mk hI
  have HK := Aside0.mk (KeepBut.refl w g none)
  have HL := Aside0.mk hB.size
  clear hI
  have HW0 := Aside0.mk hB.size
  have HB := Aside0.mk hB
  clear hB
  have H : ((spec_l01Below.f s0_0 s0_1 s0_2 4294967296).bind fun bt150 => ((spec_l01Below.f s0_0 bt150.2.1 bt150.2.2 4294967296).bind fun bt153 => (some (IntKind.u64.wrap ((IntKind.u64.wrap ((IntKind.u64.wrap (bt150.1)) * 4294967296)) + (IntKind.u64.wrap (bt153.1))), bt153.2.1, bt153.2.2)))) = some (r1, r2, r3) := h
  clear h
  replace H := Option.bind_eq_some_iff.mp H
  obtain ⟨⟨t150, t151, t152⟩, A20, H⟩ := H
  replace H : ((spec_l01Below.f s0_0 t151 t152 4294967296).bind fun bt153 => (some (IntKind.u64.wrap ((IntKind.u64.wrap ((IntKind.u64.wrap (t150)) * 4294967296)) + (IntKind.u64.wrap (bt153.1))), bt153.2.1, bt153.2.2))) = some (r1, r2, r3) := H
  have A2 := Aside0.mk A20
  clear A20
  replace H := Option.bind_eq_some_iff.mp H
  obtain ⟨⟨t153, t154, t155⟩, A30, H⟩ := H
  replace H : (some (IntKind.u64.wrap ((IntKind.u64.wrap ((IntKind.u64.wrap (t150)) * 4294967296)) + (IntKind.u64.wrap (t153))), t154, t155)) = some (r1, r2, r3) := H
  have A3 := Aside0.mk A30
  clear A30
  simp only [Option.some.injEq, Prod.mk.injEq] at H
  obtain ⟨rfl, rfl, rfl⟩ := H
  go_enter Try.func72, Try.ntmps72
  go_wp2_with (first | ((with_reducible refine gate_callee (f := 31) rfl ?_); refine goesL_ (some 4) rfl rfl Try.func31 (by kernel_rfl) rfl #[.pointer (some ⟨g, 0, none⟩), .int .i64 4294967296] rfl (by (try simp only [List.map_toArray, List.map_cons, List.map_nil]); first | done | rfl | (simp only [List.length_drop, List.length_take]; rfl)) ?_; (with_reducible refine (spec_l01Below.calls g s0_0 s0_1 s0_2 4294967296 t150 t151 t152 w0 _ ?side1 ?side2 A2.out).mono ?_); (case side1 => repeat (first | (with_reducible first | exact HI0.out | apply IsS75.alloc | apply IsS75.drewN | apply IsS75.drew | apply IsS75.set_1 | apply IsS75.set_2) | exact HI0.out)); (case side2 => repeat (first | (with_reducible first | exact HB.out | apply below_alloc | apply pw_below_drewN | apply below_drew1 | refine below_set ?_ (IsS75.ge HI0.out)) | exact HB.out)); rintro e w4 ⟨rfl, hi, hb, hk⟩; refine ⟨_, rfl, ?_⟩; have n0_ := Aside0.mk (KeepBut.trans (by repeat (first | (with_reducible first | exact HK.out | apply KeepBut.set_ | apply keep_drewN | apply keep_drew | apply keep_alloc) | exact HK.out)) hk (.inl rfl)); have n1_ := Aside0.mk (hb); have n2_ := Aside0.mk (hi); clear HK; clear HB; clear HI0; have HK := n0_; have HB := n1_; have HI0 := n2_; clear n0_ n1_ n2_; (try clear hb); (try clear hb2); (try clear hk); (try clear hi)) | ((with_reducible refine gate_callee (f := 31) rfl ?_); refine goesL_ (some 8) rfl rfl Try.func31 (by kernel_rfl) rfl #[.pointer (some ⟨g, 0, none⟩), .int .i64 4294967296] rfl (by (try simp only [List.map_toArray, List.map_cons, List.map_nil]); first | done | rfl | (simp only [List.length_drop, List.length_take]; rfl)) ?_; (with_reducible refine (spec_l01Below.calls g s0_0 t151 t152 4294967296 t153 t154 t155 w0 _ ?side1 ?side2 A3.out).mono ?_); (case side1 => repeat (first | (with_reducible first | exact HI0.out | apply IsS75.alloc | apply IsS75.drewN | apply IsS75.drew | apply IsS75.set_1 | apply IsS75.set_2) | exact HI0.out)); (case side2 => repeat (first | (with_reducible first | exact HB.out | apply below_alloc | apply pw_below_drewN | apply below_drew1 | refine below_set ?_ (IsS75.ge HI0.out)) | exact HB.out)); rintro e w5 ⟨rfl, hi, hb, hk⟩; refine ⟨_, rfl, ?_⟩; have n0_ := Aside0.mk (KeepBut.trans (by repeat (first | (with_reducible first | exact HK.out | apply KeepBut.set_ | apply keep_drewN | apply keep_drew | apply keep_alloc) | exact HK.out)) hk (.inl rfl)); have n1_ := Aside0.mk (hb); have n2_ := Aside0.mk (hi); clear HK; clear HB; clear HI0; have HK := n0_; have HB := n1_; have HI0 := n2_; clear n0_ n1_ n2_; (try clear hb); (try clear hb2); (try clear hk); (try clear hi)))
  go_ret
  exact ⟨by first | rfl | (simp; done) | (simp [errW_none, errW_some] <;> rfl) | (simp [*, errW_none, errW_some] <;> rfl) | (simp [bne, List.isEmpty_iff]; done) | (rw [Bool.eq_iff_iff]; simp), by repeat (first | (with_reducible first | exact HI0.out | apply IsS75.alloc | apply IsS75.drewN | apply IsS75.drew | apply IsS75.set_1 | apply IsS75.set_2) | exact HI0.out), by repeat (first | (with_reducible first | exact HB.out | apply below_alloc | apply pw_below_drewN | apply below_drew1 | refine below_set ?_ (IsS75.ge HI0.out)) | exact HB.out), by repeat (first | (with_reducible first | exact HK.out | apply KeepBut.set_ | apply keep_drewN | apply keep_drew | apply keep_alloc) | exact HK.out)⟩
def spec_l03Number.j0 : Nat → Int → Bool → List Int → Int → Int → Option (Int × Int × Int)
  | 0, _, _, _, _, _ => none
  | k + 1, x5, x21, x1000, x1001, x1002 => if x21 = true then ((spec_l01Below.f x1000 x1001 x1002 2000).bind fun bt169 => ((spec_FromInt.f k (wrap64 (bt169.1 - 1000))).bind fun t172 => (some (t172, bt169.2.1, bt169.2.2)))) else (if x5 = 3 then ((spec_l01Once.f x1000 x1001 x1002 2).bind fun bt173 => ((spec_l01Below.f x1000 bt173.2.1 bt173.2.2 1000000).bind fun bt176 => ((spec_l01Below.f x1000 bt176.2.1 bt176.2.2 40).bind fun bt179 => ((spec_RoundTo.f k bt173.1 (IntKind.u64.wrap (bt176.1)) (wrap64 (bt179.1 - 30)) false).bind fun t182 => (some (t182, bt179.2.1, bt179.2.2)))))) else (if x5 = 4 then ((spec_l01Below.f x1000 x1001 x1002 2048).bind fun bt183 => ((spec_l01Below.f x1000 bt183.2.1 bt183.2.2 4).bind fun bt186 => (some (IntKind.u64.wrap ((IntKind.u64.wrap ((IntKind.u64.wrap (bt183.1)) * 4503599627370496)) + (IntKind.u64.wrap (bt186.1))), bt186.2.1, bt186.2.2)))) else (if x5 = 5 then ((spec_l01Once.f x1000 x1001 x1002 2).bind fun bt189 => ((spec_l03Bits64.f x1000 bt189.2.1 bt189.2.2).bind fun bt192 => ((spec_l01Below.f x1000 bt192.2.1 bt192.2.2 120).bind fun bt195 => ((spec_RoundTo.f k bt189.1 (IntKind.u64.wrap (Int.tdiv bt192.1 2048)) (wrap64 (bt195.1 - 80)) false).bind fun t198 => (some (t198, bt195.2.1, bt195.2.2)))))) else ((spec_l03Bits64.f x1000 x1001 x1002).bind fun bt199 => (some (bt199.1, bt199.2.1, bt199.2.2))))))
def spec_l03Number.f (k : Nat) (s0_0 : List Int) (s0_1 : Int) (s0_2 : Int) : Option (Int × Int × Int) := (spec_l01Below.f s0_0 s0_1 s0_2 8).bind fun bt156 => (if bt156.1 = 0 then ((spec_l03Pow.f k 63).bind fun t159 => ((spec_l03Pow.f k 63).bind fun t160 => ((spec_l03Pow.f k 63).bind fun t161 => ((some (([0, t159, 1, 2, 4503599627370495, 4503599627370496, 4503599627370497, 9218868437227405312, 9218868437227405311, 9218868437227405310, 9221120237041090560, 9221120237041090561, IntKind.u64.wrap (9218868437227405312 + t160), IntKind.u64.wrap (9221120237041090560 + t161), 9218868437227405313, 4607182418800017408, 4607182418800017409] : List Int) : List Int)).bind fun y162 => ((spec_l01Below.f s0_0 bt156.2.1 bt156.2.2 (y162.length : Int)).bind fun bt165 => (if 0 ≤ bt165.1 then (if bt165.1 < (y162.length : Int) then (some (rd y162 bt165.1, bt165.2.1, bt165.2.2)) else (none)) else (none))))))) else (if bt156.1 = 1 then (spec_l03Number.j0 k bt156.1 (bt156.1 == 1) s0_0 bt156.2.1 bt156.2.2) else (spec_l03Number.j0 k bt156.1 (bt156.1 == 2) s0_0 bt156.2.1 bt156.2.2)))
theorem spec_l03Number.mono_l : ∀ k, (∀ y0 y1 y2 y3 y4, LeO (spec_l03Number.j0 k y0 y1 y2 y3 y4) (spec_l03Number.j0 (k + 1) y0 y1 y2 y3 y4))
  | 0 => fun _ _ _ _ _ r h => by simp [spec_l03Number.j0] at h
  | k + 1 => by
    have ih0 := spec_l03Number.mono_l k
    · intro y0 y1 y2 y3 y4
      unfold spec_l03Number.j0
      repeat' first
      | (with_reducible exact ih0 _ _ _ _ _)
      | (with_reducible exact spec_FromInt.mono _ _)
      | (with_reducible exact spec_RoundTo.mono _ _ _ _ _)
      | (with_reducible exact spec_l03Pow.mono _ _)
      | (with_reducible exact LeO.refl _)
      | (with_reducible exact LeO.none _)
      | (with_reducible refine LeO.ite ?_ ?_)
      | (with_reducible refine LeO.bind ?_ (fun _ => ?_))
      | exact ih0 _ _ _ _ _
      | exact spec_FromInt.mono _ _
      | exact spec_RoundTo.mono _ _ _ _ _
      | exact spec_l03Pow.mono _ _
      | exact LeO.none _
      | refine LeO.ite ?_ ?_
      | refine LeO.bind ?_ (fun _ => ?_)
theorem spec_l03Number.mono : ∀ a0 a1 a2 k, LeO (spec_l03Number.f k a0 a1 a2) (spec_l03Number.f (k + 1) a0 a1 a2) := by
  intro a0 a1 a2 k
  have ih0 := spec_l03Number.mono_l k
  unfold spec_l03Number.f
  repeat' first
      | (with_reducible exact ih0 _ _ _ _ _)
      | (with_reducible exact spec_FromInt.mono _ _)
      | (with_reducible exact spec_RoundTo.mono _ _ _ _ _)
      | (with_reducible exact spec_l03Pow.mono _ _)
      | (with_reducible exact LeO.refl _)
      | (with_reducible exact LeO.none _)
      | (with_reducible refine LeO.ite ?_ ?_)
      | (with_reducible refine LeO.bind ?_ (fun _ => ?_))
      | exact ih0 _ _ _ _ _
      | exact spec_FromInt.mono _ _
      | exact spec_RoundTo.mono _ _ _ _ _
      | exact spec_l03Pow.mono _ _
      | exact LeO.none _
      | refine LeO.ite ?_ ?_
      | refine LeO.bind ?_ (fun _ => ?_)
set_option maxHeartbeats 8000000 in
set_option maxRecDepth 100000 in
theorem spec_l03Number.calls (k : Nat) (g : Nat) (s0_0 : List Int) (s0_1 : Int) (s0_2 : Int) (r1 : Int) (r2 : Int) (r3 : Int) (w0 w : World) (hI : IsS75 w0 w g s0_0 s0_1 s0_2) (hB : Below w0.heap.size w0 w) (h : spec_l03Number.f k s0_0 s0_1 s0_2 = some (r1, r2, r3)) :
    Calls Try.prog 40 #[.pointer (some ⟨g, 0, none⟩)] w fun e w' => e = .returned (.int .u64 r1) ∧ IsS75 w0 w' g s0_0 r2 r3 ∧ Below w0.heap.size w0 w' ∧ KeepBut w w' g none := by
  have HI0 := Aside0.mk hI
  have HK := Aside0.mk (KeepBut.refl w g none)
  have HL := Aside0.mk hB.size
  clear hI
  have HW0 := Aside0.mk hB.size
  have HB := Aside0.mk hB
  clear hB
  have H : ((spec_l01Below.f s0_0 s0_1 s0_2 8).bind fun bt156 => (if bt156.1 = 0 then ((spec_l03Pow.f k 63).bind fun t159 => ((spec_l03Pow.f k 63).bind fun t160 => ((spec_l03Pow.f k 63).bind fun t161 => ((some (([0, t159, 1, 2, 4503599627370495, 4503599627370496, 4503599627370497, 9218868437227405312, 9218868437227405311, 9218868437227405310, 9221120237041090560, 9221120237041090561, IntKind.u64.wrap (9218868437227405312 + t160), IntKind.u64.wrap (9221120237041090560 + t161), 9218868437227405313, 4607182418800017408, 4607182418800017409] : List Int) : List Int)).bind fun y162 => ((spec_l01Below.f s0_0 bt156.2.1 bt156.2.2 (y162.length : Int)).bind fun bt165 => (if 0 ≤ bt165.1 then (if bt165.1 < (y162.length : Int) then (some (rd y162 bt165.1, bt165.2.1, bt165.2.2)) else (none)) else (none))))))) else (if bt156.1 = 1 then (spec_l03Number.j0 k bt156.1 (bt156.1 == 1) s0_0 bt156.2.1 bt156.2.2) else (spec_l03Number.j0 k bt156.1 (bt156.1 == 2) s0_0 bt156.2.1 bt156.2.2)))) = some (r1, r2, r3) := h
  clear h
  replace H := Option.bind_eq_some_iff.mp H
  obtain ⟨⟨t156, t157, t158⟩, A20, H⟩ := H
  replace H : (if t156 = 0 then ((spec_l03Pow.f k 63).bind fun t159 => ((spec_l03Pow.f k 63).bind fun t160 => ((spec_l03Pow.f k 63).bind fun t161 => ((some (([0, t159, 1, 2, 4503599627370495, 4503599627370496, 4503599627370497, 9218868437227405312, 9218868437227405311, 9218868437227405310, 9221120237041090560, 9221120237041090561, IntKind.u64.wrap (9218868437227405312 + t160), IntKind.u64.wrap (9221120237041090560 + t161), 9218868437227405313, 4607182418800017408, 4607182418800017409] : List Int) : List Int)).bind fun y162 => ((spec_l01Below.f s0_0 t157 t158 (y162.length : Int)).bind fun bt165 => (if 0 ≤ bt165.1 then (if bt165.1 < (y162.length : Int) then (some (rd y162 bt165.1, bt165.2.1, bt165.2.2)) else (none)) else (none))))))) else (if t156 = 1 then (spec_l03Number.j0 k t156 (t156 == 1) s0_0 t157 t158) else (spec_l03Number.j0 k t156 (t156 == 2) s0_0 t157 t158))) = some (r1, r2, r3) := H
  have A2 := Aside0.mk A20
  clear A20
  by_cases c3 : t156 = 0
  · rw [if_pos c3] at H
    have c3b0 : (t156 == 0) = true := beq_iff_eq.mpr c3
    have c3b1 : (t156 != 0) = false := bne_eq_false_iff_eq.mpr c3
    clear c3
    replace H := Option.bind_eq_some_iff.mp H
    obtain ⟨t159, A40, H⟩ := H
    replace H : ((spec_l03Pow.f k 63).bind fun t160 => ((spec_l03Pow.f k 63).bind fun t161 => ((some (([0, t159, 1, 2, 4503599627370495, 4503599627370496, 4503599627370497, 9218868437227405312, 9218868437227405311, 9218868437227405310, 9221120237041090560, 9221120237041090561, IntKind.u64.wrap (9218868437227405312 + t160), IntKind.u64.wrap (9221120237041090560 + t161), 9218868437227405313, 4607182418800017408, 4607182418800017409] : List Int) : List Int)).bind fun y162 => ((spec_l01Below.f s0_0 t157 t158 (y162.length : Int)).bind fun bt165 => (if 0 ≤ bt165.1 then (if bt165.1 < (y162.length : Int) then (some (rd y162 bt165.1, bt165.2.1, bt165.2.2)) else (none)) else (none)))))) = some (r1, r2, r3) := H
    have A4 := Aside0.mk A40
    clear A40
    replace H := Option.bind_eq_some_iff.mp H
    obtain ⟨t160, A50, H⟩ := H
    replace H : ((spec_l03Pow.f k 63).bind fun t161 => ((some (([0, t159, 1, 2, 4503599627370495, 4503599627370496, 4503599627370497, 9218868437227405312, 9218868437227405311, 9218868437227405310, 9221120237041090560, 9221120237041090561, IntKind.u64.wrap (9218868437227405312 + t160), IntKind.u64.wrap (9221120237041090560 + t161), 9218868437227405313, 4607182418800017408, 4607182418800017409] : List Int) : List Int)).bind fun y162 => ((spec_l01Below.f s0_0 t157 t158 (y162.length : Int)).bind fun bt165 => (if 0 ≤ bt165.1 then (if bt165.1 < (y162.length : Int) then (some (rd y162 bt165.1, bt165.2.1, bt165.2.2)) else (none)) else (none))))) = some (r1, r2, r3) := H
    have A5 := Aside0.mk A50
    clear A50
    replace H := Option.bind_eq_some_iff.mp H
    obtain ⟨t161, A60, H⟩ := H
    replace H : ((some (([0, t159, 1, 2, 4503599627370495, 4503599627370496, 4503599627370497, 9218868437227405312, 9218868437227405311, 9218868437227405310, 9221120237041090560, 9221120237041090561, IntKind.u64.wrap (9218868437227405312 + t160), IntKind.u64.wrap (9221120237041090560 + t161), 9218868437227405313, 4607182418800017408, 4607182418800017409] : List Int) : List Int)).bind fun y162 => ((spec_l01Below.f s0_0 t157 t158 (y162.length : Int)).bind fun bt165 => (if 0 ≤ bt165.1 then (if bt165.1 < (y162.length : Int) then (some (rd y162 bt165.1, bt165.2.1, bt165.2.2)) else (none)) else (none)))) = some (r1, r2, r3) := H
    have A6 := Aside0.mk A60
    clear A60
    obtain ⟨y162, hy162⟩ : ∃ y_ : List Int, y_ = (([0, t159, 1, 2, 4503599627370495, 4503599627370496, 4503599627370497, 9218868437227405312, 9218868437227405311, 9218868437227405310, 9221120237041090560, 9221120237041090561, IntKind.u64.wrap (9218868437227405312 + t160), IntKind.u64.wrap (9221120237041090560 + t161), 9218868437227405313, 4607182418800017408, 4607182418800017409] : List Int)) := ⟨_, rfl⟩
    replace H : ((spec_l01Below.f s0_0 t157 t158 (y162.length : Int)).bind fun bt165 => (if 0 ≤ bt165.1 then (if bt165.1 < (y162.length : Int) then (some (rd y162 bt165.1, bt165.2.1, bt165.2.2)) else (none)) else (none))) = some (r1, r2, r3) := by first | (rw [hy162]; with_reducible exact H) | (have H2_ := (Option.bind_some _ _).symm.trans H; rw [hy162]; with_reducible exact H2_) | (have H2_ := (Option.bind_some _ _).symm.trans H; with_reducible exact H2_) | with_reducible exact H | (rw [hy162]; exact H) | exact H
    have Ny162 := Aside0.mk hy162
    clear hy162
    replace H := Option.bind_eq_some_iff.mp H
    obtain ⟨⟨t165, t166, t167⟩, A70, H⟩ := H
    replace H : (if 0 ≤ t165 then (if t165 < (y162.length : Int) then (some (rd y162 t165, t166, t167)) else (none)) else (none)) = some (r1, r2, r3) := H
    have A7 := Aside0.mk A70
    clear A70
    by_cases c8 : 0 ≤ t165
    · rw [if_pos c8] at H
      have c8b0 : decide (0 ≤ t165) = true := decide_eq_true c8
      clear c8
      by_cases c9 : t165 < (y162.length : Int)
      · rw [if_pos c9] at H
        have c9b0 : decide (t165 < (y162.length : Int)) = true := decide_eq_true c9
        clear c9
        simp only [Option.some.injEq, Prod.mk.injEq] at H
        obtain ⟨rfl, rfl, rfl⟩ := H
        go_enter Try.func40, Try.ntmps40
        go_wp2_with (first | ((with_reducible refine gate_callee (f := 31) rfl ?_); refine goesL_ (some 5) rfl rfl Try.func31 (by kernel_rfl) rfl #[.pointer (some ⟨g, 0, none⟩), .int .i64 8] rfl (by (try simp only [List.map_toArray, List.map_cons, List.map_nil]); first | done | rfl | (simp only [List.length_drop, List.length_take]; rfl)) ?_; (with_reducible refine (spec_l01Below.calls g s0_0 s0_1 s0_2 8 t156 t157 t158 w0 _ ?side1 ?side2 A2.out).mono ?_); (case side1 => repeat (first | (with_reducible first | exact HI0.out | apply IsS75.alloc | apply IsS75.drewN | apply IsS75.drew | apply IsS75.set_1 | apply IsS75.set_2) | exact HI0.out)); (case side2 => repeat (first | (with_reducible first | exact HB.out | apply below_alloc | apply pw_below_drewN | apply below_drew1 | refine below_set ?_ (IsS75.ge HI0.out)) | exact HB.out)); rintro e w10 ⟨rfl, hi, hb, hk⟩; refine ⟨_, rfl, ?_⟩; have n0_ := Aside0.mk (KeepBut.trans (by repeat (first | (with_reducible first | exact HK.out | apply KeepBut.set_ | apply keep_drewN | apply keep_drew | apply keep_alloc) | exact HK.out)) hk (.inl rfl)); have n1_ := Aside0.mk (hb); have n2_ := Aside0.mk (hi); clear HK; clear HB; clear HI0; have HK := n0_; have HB := n1_; have HI0 := n2_; clear n0_ n1_ n2_; (try clear hb); (try clear hb2); (try clear hk); (try clear hi)) | ((with_reducible refine gate_callee (f := 37) rfl ?_); refine goesL_ (some 8) rfl rfl Try.func37 (by kernel_rfl) rfl #[.int .i64 63] rfl (by (try simp only [List.map_toArray, List.map_cons, List.map_nil]); first | done | rfl | (simp only [List.length_drop, List.length_take]; rfl)) ?_; (with_reducible refine (spec_l03Pow.calls k 63 t159 _ A4.out).mono ?_); rintro e w' ⟨rfl, ⟨nd, rfl⟩⟩; refine ⟨_, rfl, ?_⟩) | ((with_reducible refine gate_callee (f := 37) rfl ?_); refine goesL_ (some 9) rfl rfl Try.func37 (by kernel_rfl) rfl #[.int .i64 63] rfl (by (try simp only [List.map_toArray, List.map_cons, List.map_nil]); first | done | rfl | (simp only [List.length_drop, List.length_take]; rfl)) ?_; (with_reducible refine (spec_l03Pow.calls k 63 t160 _ A5.out).mono ?_); rintro e w' ⟨rfl, ⟨nd, rfl⟩⟩; refine ⟨_, rfl, ?_⟩) | ((with_reducible refine gate_callee (f := 37) rfl ?_); refine goesL_ (some 11) rfl rfl Try.func37 (by kernel_rfl) rfl #[.int .i64 63] rfl (by (try simp only [List.map_toArray, List.map_cons, List.map_nil]); first | done | rfl | (simp only [List.length_drop, List.length_take]; rfl)) ?_; (with_reducible refine (spec_l03Pow.calls k 63 t161 _ A6.out).mono ?_); rintro e w' ⟨rfl, ⟨nd, rfl⟩⟩; refine ⟨_, rfl, ?_⟩) | ((with_reducible refine gate_dst (N := 13) rfl ?_); refine Kd.R_lit (Kd.int .u64) _ 26 ?hg (N := 13) ?hd (xs := ([0, t159, 1, 2, 4503599627370495, 4503599627370496, 4503599627370497, 9218868437227405312, 9218868437227405311, 9218868437227405310, 9221120237041090560, 9221120237041090561, IntKind.u64.wrap (9218868437227405312 + t160), IntKind.u64.wrap (9221120237041090560 + t161), 9218868437227405313, 4607182418800017408, 4607182418800017409] : List Int)) (inner := [.int .u64 0, .int .u64 t159, .int .u64 1, .int .u64 2, .int .u64 4503599627370495, .int .u64 4503599627370496, .int .u64 4503599627370497, .int .u64 9218868437227405312, .int .u64 9218868437227405311, .int .u64 9218868437227405310, .int .u64 9221120237041090560, .int .u64 9221120237041090561, .int .u64 (IntKind.u64.wrap (9218868437227405312 + t160)), .int .u64 (IntKind.u64.wrap (9221120237041090560 + t161)), .int .u64 9218868437227405313, .int .u64 4607182418800017408, .int .u64 4607182418800017409]) (ok := fun _ => True) (okp := fun _ => True) ?hr ?hp (fun _ hk => hk) trivial (Below.refl _ _) (Nat.le_refl _) (by simp) ?_; (case hd => rfl); (case hg => rfl); (case hr => first | (go_simp; done) | (go_simp; rfl)); (case hp => exact (Reps.one (show Kd.M (Kd.int .u64) _ _ _ 0 [.int .u64 0] from rfl) (Reps.one (show Kd.M (Kd.int .u64) _ _ _ t159 [.int .u64 t159] from rfl) (Reps.one (show Kd.M (Kd.int .u64) _ _ _ 1 [.int .u64 1] from rfl) (Reps.one (show Kd.M (Kd.int .u64) _ _ _ 2 [.int .u64 2] from rfl) (Reps.one (show Kd.M (Kd.int .u64) _ _ _ 4503599627370495 [.int .u64 4503599627370495] from rfl) (Reps.one (show Kd.M (Kd.int .u64) _ _ _ 4503599627370496 [.int .u64 4503599627370496] from rfl) (Reps.one (show Kd.M (Kd.int .u64) _ _ _ 4503599627370497 [.int .u64 4503599627370497] from rfl) (Reps.one (show Kd.M (Kd.int .u64) _ _ _ 9218868437227405312 [.int .u64 9218868437227405312] from rfl) (Reps.one (show Kd.M (Kd.int .u64) _ _ _ 9218868437227405311 [.int .u64 9218868437227405311] from rfl) (Reps.one (show Kd.M (Kd.int .u64) _ _ _ 9218868437227405310 [.int .u64 9218868437227405310] from rfl) (Reps.one (show Kd.M (Kd.int .u64) _ _ _ 9221120237041090560 [.int .u64 9221120237041090560] from rfl) (Reps.one (show Kd.M (Kd.int .u64) _ _ _ 9221120237041090561 [.int .u64 9221120237041090561] from rfl) (Reps.one (show Kd.M (Kd.int .u64) _ _ _ (IntKind.u64.wrap (9218868437227405312 + t160)) [.int .u64 (IntKind.u64.wrap (9218868437227405312 + t160))] from rfl) (Reps.one (show Kd.M (Kd.int .u64) _ _ _ (IntKind.u64.wrap (9221120237041090560 + t161)) [.int .u64 (IntKind.u64.wrap (9221120237041090560 + t161))] from rfl) (Reps.one (show Kd.M (Kd.int .u64) _ _ _ 9218868437227405313 [.int .u64 9218868437227405313] from rfl) (Reps.one (show Kd.M (Kd.int .u64) _ _ _ 4607182418800017408 [.int .u64 4607182418800017408] from rfl) (Reps.one (show Kd.M (Kd.int .u64) _ _ _ 4607182418800017409 [.int .u64 4607182418800017409] from rfl) (Reps.none _ _))))))))))))))))))); intro v163 w11 ho12 hb hg_ hnew_; clear hg_ hnew_; (first | rw [← Ny162.out] at ho12 | (simp only [Int.reduceToNat] at ho12; rw [← Ny162.out] at ho12)); have n0_ := Aside0.mk (Kd.R_lower ho12 (keep_size (w := w) (g := g) (row := none) (by repeat (first | (with_reducible first | exact HK.out | apply KeepBut.set_ | apply keep_drewN | apply keep_drew | apply keep_alloc) | exact HK.out)))); have n1_ := Aside0.mk (IsS75.below (by repeat (first | (with_reducible first | exact HI0.out | apply IsS75.alloc | apply IsS75.drewN | apply IsS75.drew | apply IsS75.set_1 | apply IsS75.set_2) | exact HI0.out)) hb); have n2_ := Aside0.mk (KeepBut.trans (by repeat (first | (with_reducible first | exact HK.out | apply KeepBut.set_ | apply keep_drewN | apply keep_drew | apply keep_alloc) | exact HK.out)) (KeepBut.of_below hb g none) (.inl rfl)); have n3_ := Aside0.mk (below_step (by repeat (first | (with_reducible first | exact HB.out | apply below_alloc | apply pw_below_drewN | apply below_drew1 | refine below_set ?_ (IsS75.ge HI0.out)) | exact HB.out)) hb); clear HI0; clear HK; clear HB; have HO164 := n0_; have HI0 := n1_; have HK := n2_; have HB := n3_; clear n0_ n1_ n2_ n3_; clear hb ho12; obtain ⟨Ao13, co13, eo13⟩ := Kd.R_slice HO164.out; subst eo13) | ((with_reducible refine gate_callee (f := 31) rfl ?_); refine goesL_ (some 18) rfl rfl Try.func31 (by kernel_rfl) rfl #[.pointer (some ⟨g, 0, none⟩), .int .i64 (y162.length : Int)] rfl (by (try simp only [List.map_toArray, List.map_cons, List.map_nil]); first | done | rfl | (simp only [List.length_drop, List.length_take]; rfl)) ?_; (with_reducible refine (spec_l01Below.calls g s0_0 t157 t158 (y162.length : Int) t165 t166 t167 w0 _ ?side1 ?side2 A7.out).mono ?_); (case side1 => repeat (first | (with_reducible first | exact HI0.out | apply IsS75.alloc | apply IsS75.drewN | apply IsS75.drew | apply IsS75.set_1 | apply IsS75.set_2) | exact HI0.out)); (case side2 => repeat (first | (with_reducible first | exact HB.out | apply below_alloc | apply pw_below_drewN | apply below_drew1 | refine below_set ?_ (IsS75.ge HI0.out)) | exact HB.out)); rintro e w14 ⟨rfl, hi, hb, hk⟩; refine ⟨_, rfl, ?_⟩; have n0_ := Aside0.mk (Kd.R_mono (Kd.R_keep (IsS75.apart (show IsS75 w0 _ g s0_0 t157 t158 from by repeat (first | (with_reducible first | exact HI0.out | apply IsS75.alloc | apply IsS75.drewN | apply IsS75.drew | apply IsS75.set_1 | apply IsS75.set_2) | exact HI0.out)) (by (with_reducible repeat (first | apply Kd.R_alloc | apply Kd.R_drewN | apply Kd.R_drew)); exact HO164.out) (by decide)) hk (fun _ h => h.2)) (fun _ h => h.1)); have n1_ := Aside0.mk (KeepBut.trans (by repeat (first | (with_reducible first | exact HK.out | apply KeepBut.set_ | apply keep_drewN | apply keep_drew | apply keep_alloc) | exact HK.out)) hk (.inl rfl)); have n2_ := Aside0.mk (hb); have n3_ := Aside0.mk (hi); clear HO164; clear HK; clear HB; clear HI0; have HO164 := n0_; have HK := n1_; have HB := n2_; have HI0 := n3_; clear n0_ n1_ n2_ n3_; (try clear hb); (try clear hb2); (try clear hk); (try clear hi); have p168 : 0 ≤ (t165 : Int) := of_decide_eq_true (by first | (with_reducible assumption) | assumption); have q168 : t165 < (y162.length : Int) := of_decide_eq_true (by first | (with_reducible assumption) | assumption); obtain ⟨ad168, e168, hx168_0⟩ := Kd.at_int (Kd.R_reads' HO164.out).2.2 t165 p168 q168; cases e168; replace p168 := eq_true p168; replace q168 := eq_true q168))
        go_ret
        exact ⟨by first | rfl | (simp; done) | (simp [errW_none, errW_some] <;> rfl) | (simp [*, errW_none, errW_some] <;> rfl) | (simp [bne, List.isEmpty_iff]; done) | (rw [Bool.eq_iff_iff]; simp), by repeat (first | (with_reducible first | exact HI0.out | apply IsS75.alloc | apply IsS75.drewN | apply IsS75.drew | apply IsS75.set_1 | apply IsS75.set_2) | exact HI0.out), by repeat (first | (with_reducible first | exact HB.out | apply below_alloc | apply pw_below_drewN | apply below_drew1 | refine below_set ?_ (IsS75.ge HI0.out)) | exact HB.out), by repeat (first | (with_reducible first | exact HK.out | apply KeepBut.set_ | apply keep_drewN | apply keep_drew | apply keep_alloc) | exact HK.out)⟩
      · rw [if_neg c9] at H
        exact absurd H (by simp)
    · rw [if_neg c8] at H
      exact absurd H (by simp)
  · rw [if_neg c3] at H
    have c3b0 : (t156 == 0) = false := beq_eq_false_iff_ne.mpr c3
    have c3b1 : (t156 != 0) = true := bne_iff_ne.mpr c3
    have HC15 := Aside0.mk H
    clear H
    go_enter Try.func40, Try.ntmps40
    go_upto_if 21 with (first | ((with_reducible refine gate_callee (f := 31) rfl ?_); refine goesL_ (some 5) rfl rfl Try.func31 (by kernel_rfl) rfl #[.pointer (some ⟨g, 0, none⟩), .int .i64 8] rfl (by (try simp only [List.map_toArray, List.map_cons, List.map_nil]); first | done | rfl | (simp only [List.length_drop, List.length_take]; rfl)) ?_; (with_reducible refine (spec_l01Below.calls g s0_0 s0_1 s0_2 8 t156 t157 t158 w0 _ ?side1 ?side2 A2.out).mono ?_); (case side1 => repeat (first | (with_reducible first | exact HI0.out | apply IsS75.alloc | apply IsS75.drewN | apply IsS75.drew | apply IsS75.set_1 | apply IsS75.set_2) | exact HI0.out)); (case side2 => repeat (first | (with_reducible first | exact HB.out | apply below_alloc | apply pw_below_drewN | apply below_drew1 | refine below_set ?_ (IsS75.ge HI0.out)) | exact HB.out)); rintro e w16 ⟨rfl, hi, hb, hk⟩; refine ⟨_, rfl, ?_⟩; have n0_ := Aside0.mk (KeepBut.trans (by repeat (first | (with_reducible first | exact HK.out | apply KeepBut.set_ | apply keep_drewN | apply keep_drew | apply keep_alloc) | exact HK.out)) hk (.inl rfl)); have n1_ := Aside0.mk (hb); have n2_ := Aside0.mk (hi); clear HK; clear HB; clear HI0; have HK := n0_; have HB := n1_; have HI0 := n2_; clear n0_ n1_ n2_; (try clear hb); (try clear hb2); (try clear hk); (try clear hi)))
    (try simp only [Act.put, List.setIfInBounds_toArray, List.set_cons_zero, List.set_cons_succ])
    go_cut [21] (fun v21 wc => ∃ (kq : Nat) (x21_14 : Bool), v21 = .bool x21_14 ∧ Aside0 (spec_l03Number.j0 kq t156 x21_14 s0_0 t157 t158 = some (r1, r2, r3)) ∧ Aside0 (kq ≤ k) ∧ Aside0 (IsS75 w0 wc g s0_0 t157 t158) ∧ Aside0 (KeepBut w wc g none) ∧ Aside0 (Below w0.heap.size w0 wc))
    case first =>
      have H := HC15.out
      clear HC15
      by_cases c17 : t156 = 1
      · rw [if_pos c17] at H
        have c17b0 : (t156 == 1) = true := beq_iff_eq.mpr c17
        have c17b1 : (t156 != 1) = false := bne_eq_false_iff_eq.mpr c17
        clear c17
        (first | rw [c17b0] | (simp only [i64_w, i32_w]; rw [c17b0]) | skip)
        have H' := Aside0.mk H
        clear H
        go_wp2
        go_meet
        case rel => exact ⟨_, ((t156 == 1)), (by first | rfl | (simp; done) | (simp [*]; done)), H', ⟨by first | omega | exact Nat.le_refl _⟩, ⟨by repeat (first | (with_reducible first | exact HI0.out | apply IsS75.alloc | apply IsS75.drewN | apply IsS75.drew | apply IsS75.set_1 | apply IsS75.set_2) | exact HI0.out)⟩, ⟨by repeat (first | (with_reducible first | exact HK.out | apply KeepBut.set_ | apply keep_drewN | apply keep_drew | apply keep_alloc) | exact HK.out)⟩, ⟨by repeat (first | (with_reducible first | exact HB.out | apply below_alloc | apply pw_below_drewN | apply below_drew1 | refine below_set ?_ (IsS75.ge HI0.out)) | exact HB.out)⟩⟩
      · rw [if_neg c17] at H
        have c17b0 : (t156 == 1) = false := beq_eq_false_iff_ne.mpr c17
        have c17b1 : (t156 != 1) = true := bne_iff_ne.mpr c17
        (first | rw [c17b0] | (simp only [i64_w, i32_w]; rw [c17b0]) | skip)
        have H' := Aside0.mk H
        clear H
        go_wp2
        go_meet
        case rel => exact ⟨_, ((t156 == 2)), (by first | rfl | (simp; done) | (simp [*]; done)), H', ⟨by first | omega | exact Nat.le_refl _⟩, ⟨by repeat (first | (with_reducible first | exact HI0.out | apply IsS75.alloc | apply IsS75.drewN | apply IsS75.drew | apply IsS75.set_1 | apply IsS75.set_2) | exact HI0.out)⟩, ⟨by repeat (first | (with_reducible first | exact HK.out | apply KeepBut.set_ | apply keep_drewN | apply keep_drew | apply keep_alloc) | exact HK.out)⟩, ⟨by repeat (first | (with_reducible first | exact HB.out | apply below_alloc | apply pw_below_drewN | apply below_drew1 | refine below_set ?_ (IsS75.ge HI0.out)) | exact HB.out)⟩⟩
    case rest =>
      clear HC15
      try clear c1
      try clear p1
      try clear q1
      try clear hx1
      try clear p2
      try clear c3
      try clear c3b0
      try clear c3b1
      try clear c4
      try clear c8
      try clear c8b0
      try clear c9
      try clear c9b0
      try clear p16
      try clear q16
      try clear hx16
      try clear c17
      try clear c17b0
      try clear c17b1
      try clear hx168_0
      try clear p168
      try clear q168
      obtain ⟨kq, x21_14, rfl, HA, HJ14, HI0, HK, HB⟩ := hcut
      cases kq with
      | zero => exact absurd HA.out (by simp [spec_l03Number.j0])
      | succ kj14 =>
        have H := HA.out
        clear HA
        simp only [spec_l03Number.j0] at H
        by_cases c18 : x21_14 = true
        · subst c18
          have H1 : ((spec_l01Below.f s0_0 t157 t158 2000).bind fun bt169 => ((spec_FromInt.f kj14 (wrap64 (bt169.1 - 1000))).bind fun t172 => (some (t172, bt169.2.1, bt169.2.2)))) = some (r1, r2, r3) := by rw [if_pos rfl] at H; exact H
          clear H
          have H := H1
          clear H1
          replace H := Option.bind_eq_some_iff.mp H
          obtain ⟨⟨t169, t170, t171⟩, A190, H⟩ := H
          replace H : ((spec_FromInt.f kj14 (wrap64 (t169 - 1000))).bind fun t172 => (some (t172, t170, t171))) = some (r1, r2, r3) := H
          have A19 := Aside0.mk A190
          clear A190
          replace H := Option.bind_eq_some_iff.mp H
          obtain ⟨t172, A200, H⟩ := H
          replace H : (some (t172, t170, t171)) = some (r1, r2, r3) := H
          have A20 := Aside0.mk A200
          clear A200
          simp only [Option.some.injEq, Prod.mk.injEq] at H
          obtain ⟨rfl, rfl, rfl⟩ := H
          go_wp2_with (first | ((with_reducible refine gate_callee (f := 31) rfl ?_); refine goesL_ (some 25) rfl rfl Try.func31 (by kernel_rfl) rfl #[.pointer (some ⟨g, 0, none⟩), .int .i64 2000] rfl (by (try simp only [List.map_toArray, List.map_cons, List.map_nil]); first | done | rfl | (simp only [List.length_drop, List.length_take]; rfl)) ?_; (with_reducible refine (spec_l01Below.calls g s0_0 t157 t158 2000 t169 t170 t171 w0 _ ?side1 ?side2 A19.out).mono ?_); (case side1 => repeat (first | (with_reducible first | exact HI0.out | apply IsS75.alloc | apply IsS75.drewN | apply IsS75.drew | apply IsS75.set_1 | apply IsS75.set_2) | exact HI0.out)); (case side2 => repeat (first | (with_reducible first | exact HB.out | apply below_alloc | apply pw_below_drewN | apply below_drew1 | refine below_set ?_ (IsS75.ge HI0.out)) | exact HB.out)); rintro e w21 ⟨rfl, hi, hb, hk⟩; refine ⟨_, rfl, ?_⟩; have n0_ := Aside0.mk (KeepBut.trans (by repeat (first | (with_reducible first | exact HK.out | apply KeepBut.set_ | apply keep_drewN | apply keep_drew | apply keep_alloc) | exact HK.out)) hk (.inl rfl)); have n1_ := Aside0.mk (hb); have n2_ := Aside0.mk (hi); clear HK; clear HB; clear HI0; have HK := n0_; have HB := n1_; have HI0 := n2_; clear n0_ n1_ n2_; (try clear hb); (try clear hb2); (try clear hk); (try clear hi)) | ((with_reducible refine gate_callee (f := 34) rfl ?_); refine goesL_ (some 27) rfl rfl Try.func34 (by kernel_rfl) rfl #[.int .i64 (wrap64 (t169 - 1000))] rfl (by (try simp only [List.map_toArray, List.map_cons, List.map_nil]); first | done | rfl | (simp only [List.length_drop, List.length_take]; rfl)) ?_; (with_reducible refine (spec_FromInt.calls kj14 (wrap64 (t169 - 1000)) t172 _ A20.out).mono ?_); rintro e w' ⟨rfl, ⟨nd, rfl⟩⟩; refine ⟨_, rfl, ?_⟩))
          go_ret
          exact ⟨by first | rfl | (simp; done) | (simp [errW_none, errW_some] <;> rfl) | (simp [*, errW_none, errW_some] <;> rfl) | (simp [bne, List.isEmpty_iff]; done) | (rw [Bool.eq_iff_iff]; simp), by repeat (first | (with_reducible first | exact HI0.out | apply IsS75.alloc | apply IsS75.drewN | apply IsS75.drew | apply IsS75.set_1 | apply IsS75.set_2) | exact HI0.out), by repeat (first | (with_reducible first | exact HB.out | apply below_alloc | apply pw_below_drewN | apply below_drew1 | refine below_set ?_ (IsS75.ge HI0.out)) | exact HB.out), by repeat (first | (with_reducible first | exact HK.out | apply KeepBut.set_ | apply keep_drewN | apply keep_drew | apply keep_alloc) | exact HK.out)⟩
        · replace c18 := Bool.eq_false_iff.mpr c18
          subst c18
          have H1 : (if t156 = 3 then ((spec_l01Once.f s0_0 t157 t158 2).bind fun bt173 => ((spec_l01Below.f s0_0 bt173.2.1 bt173.2.2 1000000).bind fun bt176 => ((spec_l01Below.f s0_0 bt176.2.1 bt176.2.2 40).bind fun bt179 => ((spec_RoundTo.f kj14 bt173.1 (IntKind.u64.wrap (bt176.1)) (wrap64 (bt179.1 - 30)) false).bind fun t182 => (some (t182, bt179.2.1, bt179.2.2)))))) else (if t156 = 4 then ((spec_l01Below.f s0_0 t157 t158 2048).bind fun bt183 => ((spec_l01Below.f s0_0 bt183.2.1 bt183.2.2 4).bind fun bt186 => (some (IntKind.u64.wrap ((IntKind.u64.wrap ((IntKind.u64.wrap (bt183.1)) * 4503599627370496)) + (IntKind.u64.wrap (bt186.1))), bt186.2.1, bt186.2.2)))) else (if t156 = 5 then ((spec_l01Once.f s0_0 t157 t158 2).bind fun bt189 => ((spec_l03Bits64.f s0_0 bt189.2.1 bt189.2.2).bind fun bt192 => ((spec_l01Below.f s0_0 bt192.2.1 bt192.2.2 120).bind fun bt195 => ((spec_RoundTo.f kj14 bt189.1 (IntKind.u64.wrap (Int.tdiv bt192.1 2048)) (wrap64 (bt195.1 - 80)) false).bind fun t198 => (some (t198, bt195.2.1, bt195.2.2)))))) else ((spec_l03Bits64.f s0_0 t157 t158).bind fun bt199 => (some (bt199.1, bt199.2.1, bt199.2.2)))))) = some (r1, r2, r3) := by rw [if_neg (show ¬ (false = true) by decide)] at H; exact H
          clear H
          have H := H1
          clear H1
          by_cases c22 : t156 = 3
          · rw [if_pos c22] at H
            have c22b0 : (t156 == 3) = true := beq_iff_eq.mpr c22
            have c22b1 : (t156 != 3) = false := bne_eq_false_iff_eq.mpr c22
            clear c22
            replace H := Option.bind_eq_some_iff.mp H
            obtain ⟨⟨t173, t174, t175⟩, A230, H⟩ := H
            replace H : ((spec_l01Below.f s0_0 t174 t175 1000000).bind fun bt176 => ((spec_l01Below.f s0_0 bt176.2.1 bt176.2.2 40).bind fun bt179 => ((spec_RoundTo.f kj14 t173 (IntKind.u64.wrap (bt176.1)) (wrap64 (bt179.1 - 30)) false).bind fun t182 => (some (t182, bt179.2.1, bt179.2.2))))) = some (r1, r2, r3) := H
            have A23 := Aside0.mk A230
            clear A230
            replace H := Option.bind_eq_some_iff.mp H
            obtain ⟨⟨t176, t177, t178⟩, A240, H⟩ := H
            replace H : ((spec_l01Below.f s0_0 t177 t178 40).bind fun bt179 => ((spec_RoundTo.f kj14 t173 (IntKind.u64.wrap (t176)) (wrap64 (bt179.1 - 30)) false).bind fun t182 => (some (t182, bt179.2.1, bt179.2.2)))) = some (r1, r2, r3) := H
            have A24 := Aside0.mk A240
            clear A240
            replace H := Option.bind_eq_some_iff.mp H
            obtain ⟨⟨t179, t180, t181⟩, A250, H⟩ := H
            replace H : ((spec_RoundTo.f kj14 t173 (IntKind.u64.wrap (t176)) (wrap64 (t179 - 30)) false).bind fun t182 => (some (t182, t180, t181))) = some (r1, r2, r3) := H
            have A25 := Aside0.mk A250
            clear A250
            replace H := Option.bind_eq_some_iff.mp H
            obtain ⟨t182, A260, H⟩ := H
            replace H : (some (t182, t180, t181)) = some (r1, r2, r3) := H
            have A26 := Aside0.mk A260
            clear A260
            simp only [Option.some.injEq, Prod.mk.injEq] at H
            obtain ⟨rfl, rfl, rfl⟩ := H
            go_wp2_with (first | ((with_reducible refine gate_callee (f := 71) rfl ?_); refine goesL_ (some 31) rfl rfl Try.func71 (by kernel_rfl) rfl #[.pointer (some ⟨g, 0, none⟩), .int .i64 2] rfl (by (try simp only [List.map_toArray, List.map_cons, List.map_nil]); first | done | rfl | (simp only [List.length_drop, List.length_take]; rfl)) ?_; (with_reducible refine (spec_l01Once.calls g s0_0 t157 t158 2 t173 t174 t175 w0 _ ?side1 ?side2 A23.out).mono ?_); (case side1 => repeat (first | (with_reducible first | exact HI0.out | apply IsS75.alloc | apply IsS75.drewN | apply IsS75.drew | apply IsS75.set_1 | apply IsS75.set_2) | exact HI0.out)); (case side2 => repeat (first | (with_reducible first | exact HB.out | apply below_alloc | apply pw_below_drewN | apply below_drew1 | refine below_set ?_ (IsS75.ge HI0.out)) | exact HB.out)); rintro e w27 ⟨rfl, hi, hb, hk⟩; refine ⟨_, rfl, ?_⟩; have n0_ := Aside0.mk (KeepBut.trans (by repeat (first | (with_reducible first | exact HK.out | apply KeepBut.set_ | apply keep_drewN | apply keep_drew | apply keep_alloc) | exact HK.out)) hk (.inl rfl)); have n1_ := Aside0.mk (hb); have n2_ := Aside0.mk (hi); clear HK; clear HB; clear HI0; have HK := n0_; have HB := n1_; have HI0 := n2_; clear n0_ n1_ n2_; (try clear hb); (try clear hb2); (try clear hk); (try clear hi)) | ((with_reducible refine gate_callee (f := 31) rfl ?_); refine goesL_ (some 33) rfl rfl Try.func31 (by kernel_rfl) rfl #[.pointer (some ⟨g, 0, none⟩), .int .i64 1000000] rfl (by (try simp only [List.map_toArray, List.map_cons, List.map_nil]); first | done | rfl | (simp only [List.length_drop, List.length_take]; rfl)) ?_; (with_reducible refine (spec_l01Below.calls g s0_0 t174 t175 1000000 t176 t177 t178 w0 _ ?side1 ?side2 A24.out).mono ?_); (case side1 => repeat (first | (with_reducible first | exact HI0.out | apply IsS75.alloc | apply IsS75.drewN | apply IsS75.drew | apply IsS75.set_1 | apply IsS75.set_2) | exact HI0.out)); (case side2 => repeat (first | (with_reducible first | exact HB.out | apply below_alloc | apply pw_below_drewN | apply below_drew1 | refine below_set ?_ (IsS75.ge HI0.out)) | exact HB.out)); rintro e w28 ⟨rfl, hi, hb, hk⟩; refine ⟨_, rfl, ?_⟩; have n0_ := Aside0.mk (KeepBut.trans (by repeat (first | (with_reducible first | exact HK.out | apply KeepBut.set_ | apply keep_drewN | apply keep_drew | apply keep_alloc) | exact HK.out)) hk (.inl rfl)); have n1_ := Aside0.mk (hb); have n2_ := Aside0.mk (hi); clear HK; clear HB; clear HI0; have HK := n0_; have HB := n1_; have HI0 := n2_; clear n0_ n1_ n2_; (try clear hb); (try clear hb2); (try clear hk); (try clear hi)) | ((with_reducible refine gate_callee (f := 31) rfl ?_); refine goesL_ (some 36) rfl rfl Try.func31 (by kernel_rfl) rfl #[.pointer (some ⟨g, 0, none⟩), .int .i64 40] rfl (by (try simp only [List.map_toArray, List.map_cons, List.map_nil]); first | done | rfl | (simp only [List.length_drop, List.length_take]; rfl)) ?_; (with_reducible refine (spec_l01Below.calls g s0_0 t177 t178 40 t179 t180 t181 w0 _ ?side1 ?side2 A25.out).mono ?_); (case side1 => repeat (first | (with_reducible first | exact HI0.out | apply IsS75.alloc | apply IsS75.drewN | apply IsS75.drew | apply IsS75.set_1 | apply IsS75.set_2) | exact HI0.out)); (case side2 => repeat (first | (with_reducible first | exact HB.out | apply below_alloc | apply pw_below_drewN | apply below_drew1 | refine below_set ?_ (IsS75.ge HI0.out)) | exact HB.out)); rintro e w29 ⟨rfl, hi, hb, hk⟩; refine ⟨_, rfl, ?_⟩; have n0_ := Aside0.mk (KeepBut.trans (by repeat (first | (with_reducible first | exact HK.out | apply KeepBut.set_ | apply keep_drewN | apply keep_drew | apply keep_alloc) | exact HK.out)) hk (.inl rfl)); have n1_ := Aside0.mk (hb); have n2_ := Aside0.mk (hi); clear HK; clear HB; clear HI0; have HK := n0_; have HB := n1_; have HI0 := n2_; clear n0_ n1_ n2_; (try clear hb); (try clear hb2); (try clear hk); (try clear hi)) | ((with_reducible refine gate_callee (f := 42) rfl ?_); refine goesL_ (some 38) rfl rfl Try.func42 (by kernel_rfl) rfl #[.bool t173, .int .u64 (IntKind.u64.wrap (t176)), .int .i64 (wrap64 (t179 - 30)), .bool false] rfl (by (try simp only [List.map_toArray, List.map_cons, List.map_nil]); first | done | rfl | (simp only [List.length_drop, List.length_take]; rfl)) ?_; (with_reducible refine (spec_RoundTo.calls kj14 t173 (IntKind.u64.wrap (t176)) (wrap64 (t179 - 30)) false t182 _ A26.out).mono ?_); rintro e w' ⟨rfl, ⟨nd, rfl⟩⟩; refine ⟨_, rfl, ?_⟩))
            go_ret
            exact ⟨by first | rfl | (simp; done) | (simp [errW_none, errW_some] <;> rfl) | (simp [*, errW_none, errW_some] <;> rfl) | (simp [bne, List.isEmpty_iff]; done) | (rw [Bool.eq_iff_iff]; simp), by repeat (first | (with_reducible first | exact HI0.out | apply IsS75.alloc | apply IsS75.drewN | apply IsS75.drew | apply IsS75.set_1 | apply IsS75.set_2) | exact HI0.out), by repeat (first | (with_reducible first | exact HB.out | apply below_alloc | apply pw_below_drewN | apply below_drew1 | refine below_set ?_ (IsS75.ge HI0.out)) | exact HB.out), by repeat (first | (with_reducible first | exact HK.out | apply KeepBut.set_ | apply keep_drewN | apply keep_drew | apply keep_alloc) | exact HK.out)⟩
          · rw [if_neg c22] at H
            have c22b0 : (t156 == 3) = false := beq_eq_false_iff_ne.mpr c22
            have c22b1 : (t156 != 3) = true := bne_iff_ne.mpr c22
            by_cases c30 : t156 = 4
            · rw [if_pos c30] at H
              have c30b0 : (t156 == 4) = true := beq_iff_eq.mpr c30
              have c30b1 : (t156 != 4) = false := bne_eq_false_iff_eq.mpr c30
              clear c30
              replace H := Option.bind_eq_some_iff.mp H
              obtain ⟨⟨t183, t184, t185⟩, A310, H⟩ := H
              replace H : ((spec_l01Below.f s0_0 t184 t185 4).bind fun bt186 => (some (IntKind.u64.wrap ((IntKind.u64.wrap ((IntKind.u64.wrap (t183)) * 4503599627370496)) + (IntKind.u64.wrap (bt186.1))), bt186.2.1, bt186.2.2))) = some (r1, r2, r3) := H
              have A31 := Aside0.mk A310
              clear A310
              replace H := Option.bind_eq_some_iff.mp H
              obtain ⟨⟨t186, t187, t188⟩, A320, H⟩ := H
              replace H : (some (IntKind.u64.wrap ((IntKind.u64.wrap ((IntKind.u64.wrap (t183)) * 4503599627370496)) + (IntKind.u64.wrap (t186))), t187, t188)) = some (r1, r2, r3) := H
              have A32 := Aside0.mk A320
              clear A320
              simp only [Option.some.injEq, Prod.mk.injEq] at H
              obtain ⟨rfl, rfl, rfl⟩ := H
              go_wp2_with (first | ((with_reducible refine gate_callee (f := 31) rfl ?_); refine goesL_ (some 42) rfl rfl Try.func31 (by kernel_rfl) rfl #[.pointer (some ⟨g, 0, none⟩), .int .i64 2048] rfl (by (try simp only [List.map_toArray, List.map_cons, List.map_nil]); first | done | rfl | (simp only [List.length_drop, List.length_take]; rfl)) ?_; (with_reducible refine (spec_l01Below.calls g s0_0 t157 t158 2048 t183 t184 t185 w0 _ ?side1 ?side2 A31.out).mono ?_); (case side1 => repeat (first | (with_reducible first | exact HI0.out | apply IsS75.alloc | apply IsS75.drewN | apply IsS75.drew | apply IsS75.set_1 | apply IsS75.set_2) | exact HI0.out)); (case side2 => repeat (first | (with_reducible first | exact HB.out | apply below_alloc | apply pw_below_drewN | apply below_drew1 | refine below_set ?_ (IsS75.ge HI0.out)) | exact HB.out)); rintro e w33 ⟨rfl, hi, hb, hk⟩; refine ⟨_, rfl, ?_⟩; have n0_ := Aside0.mk (KeepBut.trans (by repeat (first | (with_reducible first | exact HK.out | apply KeepBut.set_ | apply keep_drewN | apply keep_drew | apply keep_alloc) | exact HK.out)) hk (.inl rfl)); have n1_ := Aside0.mk (hb); have n2_ := Aside0.mk (hi); clear HK; clear HB; clear HI0; have HK := n0_; have HB := n1_; have HI0 := n2_; clear n0_ n1_ n2_; (try clear hb); (try clear hb2); (try clear hk); (try clear hi)) | ((with_reducible refine gate_callee (f := 31) rfl ?_); refine goesL_ (some 46) rfl rfl Try.func31 (by kernel_rfl) rfl #[.pointer (some ⟨g, 0, none⟩), .int .i64 4] rfl (by (try simp only [List.map_toArray, List.map_cons, List.map_nil]); first | done | rfl | (simp only [List.length_drop, List.length_take]; rfl)) ?_; (with_reducible refine (spec_l01Below.calls g s0_0 t184 t185 4 t186 t187 t188 w0 _ ?side1 ?side2 A32.out).mono ?_); (case side1 => repeat (first | (with_reducible first | exact HI0.out | apply IsS75.alloc | apply IsS75.drewN | apply IsS75.drew | apply IsS75.set_1 | apply IsS75.set_2) | exact HI0.out)); (case side2 => repeat (first | (with_reducible first | exact HB.out | apply below_alloc | apply pw_below_drewN | apply below_drew1 | refine below_set ?_ (IsS75.ge HI0.out)) | exact HB.out)); rintro e w34 ⟨rfl, hi, hb, hk⟩; refine ⟨_, rfl, ?_⟩; have n0_ := Aside0.mk (KeepBut.trans (by repeat (first | (with_reducible first | exact HK.out | apply KeepBut.set_ | apply keep_drewN | apply keep_drew | apply keep_alloc) | exact HK.out)) hk (.inl rfl)); have n1_ := Aside0.mk (hb); have n2_ := Aside0.mk (hi); clear HK; clear HB; clear HI0; have HK := n0_; have HB := n1_; have HI0 := n2_; clear n0_ n1_ n2_; (try clear hb); (try clear hb2); (try clear hk); (try clear hi)))
              go_ret
              exact ⟨by first | rfl | (simp; done) | (simp [errW_none, errW_some] <;> rfl) | (simp [*, errW_none, errW_some] <;> rfl) | (simp [bne, List.isEmpty_iff]; done) | (rw [Bool.eq_iff_iff]; simp), by repeat (first | (with_reducible first | exact HI0.out | apply IsS75.alloc | apply IsS75.drewN | apply IsS75.drew | apply IsS75.set_1 | apply IsS75.set_2) | exact HI0.out), by repeat (first | (with_reducible first | exact HB.out | apply below_alloc | apply pw_below_drewN | apply below_drew1 | refine below_set ?_ (IsS75.ge HI0.out)) | exact HB.out), by repeat (first | (with_reducible first | exact HK.out | apply KeepBut.set_ | apply keep_drewN | apply keep_drew | apply keep_alloc) | exact HK.out)⟩
            · rw [if_neg c30] at H
              have c30b0 : (t156 == 4) = false := beq_eq_false_iff_ne.mpr c30
              have c30b1 : (t156 != 4) = true := bne_iff_ne.mpr c30
              by_cases c35 : t156 = 5
              · rw [if_pos c35] at H
                have c35b0 : (t156 == 5) = true := beq_iff_eq.mpr c35
                have c35b1 : (t156 != 5) = false := bne_eq_false_iff_eq.mpr c35
                clear c35
                replace H := Option.bind_eq_some_iff.mp H
                obtain ⟨⟨t189, t190, t191⟩, A360, H⟩ := H
                replace H : ((spec_l03Bits64.f s0_0 t190 t191).bind fun bt192 => ((spec_l01Below.f s0_0 bt192.2.1 bt192.2.2 120).bind fun bt195 => ((spec_RoundTo.f kj14 t189 (IntKind.u64.wrap (Int.tdiv bt192.1 2048)) (wrap64 (bt195.1 - 80)) false).bind fun t198 => (some (t198, bt195.2.1, bt195.2.2))))) = some (r1, r2, r3) := H
                have A36 := Aside0.mk A360
                clear A360
                replace H := Option.bind_eq_some_iff.mp H
                obtain ⟨⟨t192, t193, t194⟩, A370, H⟩ := H
                replace H : ((spec_l01Below.f s0_0 t193 t194 120).bind fun bt195 => ((spec_RoundTo.f kj14 t189 (IntKind.u64.wrap (Int.tdiv t192 2048)) (wrap64 (bt195.1 - 80)) false).bind fun t198 => (some (t198, bt195.2.1, bt195.2.2)))) = some (r1, r2, r3) := H
                have A37 := Aside0.mk A370
                clear A370
                replace H := Option.bind_eq_some_iff.mp H
                obtain ⟨⟨t195, t196, t197⟩, A380, H⟩ := H
                replace H : ((spec_RoundTo.f kj14 t189 (IntKind.u64.wrap (Int.tdiv t192 2048)) (wrap64 (t195 - 80)) false).bind fun t198 => (some (t198, t196, t197))) = some (r1, r2, r3) := H
                have A38 := Aside0.mk A380
                clear A380
                replace H := Option.bind_eq_some_iff.mp H
                obtain ⟨t198, A390, H⟩ := H
                replace H : (some (t198, t196, t197)) = some (r1, r2, r3) := H
                have A39 := Aside0.mk A390
                clear A390
                simp only [Option.some.injEq, Prod.mk.injEq] at H
                obtain ⟨rfl, rfl, rfl⟩ := H
                go_wp2_with (first | ((with_reducible refine gate_callee (f := 71) rfl ?_); refine goesL_ (some 52) rfl rfl Try.func71 (by kernel_rfl) rfl #[.pointer (some ⟨g, 0, none⟩), .int .i64 2] rfl (by (try simp only [List.map_toArray, List.map_cons, List.map_nil]); first | done | rfl | (simp only [List.length_drop, List.length_take]; rfl)) ?_; (with_reducible refine (spec_l01Once.calls g s0_0 t157 t158 2 t189 t190 t191 w0 _ ?side1 ?side2 A36.out).mono ?_); (case side1 => repeat (first | (with_reducible first | exact HI0.out | apply IsS75.alloc | apply IsS75.drewN | apply IsS75.drew | apply IsS75.set_1 | apply IsS75.set_2) | exact HI0.out)); (case side2 => repeat (first | (with_reducible first | exact HB.out | apply below_alloc | apply pw_below_drewN | apply below_drew1 | refine below_set ?_ (IsS75.ge HI0.out)) | exact HB.out)); rintro e w40 ⟨rfl, hi, hb, hk⟩; refine ⟨_, rfl, ?_⟩; have n0_ := Aside0.mk (KeepBut.trans (by repeat (first | (with_reducible first | exact HK.out | apply KeepBut.set_ | apply keep_drewN | apply keep_drew | apply keep_alloc) | exact HK.out)) hk (.inl rfl)); have n1_ := Aside0.mk (hb); have n2_ := Aside0.mk (hi); clear HK; clear HB; clear HI0; have HK := n0_; have HB := n1_; have HI0 := n2_; clear n0_ n1_ n2_; (try clear hb); (try clear hb2); (try clear hk); (try clear hi)) | ((with_reducible refine gate_callee (f := 72) rfl ?_); refine goesL_ (some 54) rfl rfl Try.func72 (by kernel_rfl) rfl #[.pointer (some ⟨g, 0, none⟩)] rfl (by (try simp only [List.map_toArray, List.map_cons, List.map_nil]); first | done | rfl | (simp only [List.length_drop, List.length_take]; rfl)) ?_; (with_reducible refine (spec_l03Bits64.calls g s0_0 t190 t191 t192 t193 t194 w0 _ ?side1 ?side2 A37.out).mono ?_); (case side1 => repeat (first | (with_reducible first | exact HI0.out | apply IsS75.alloc | apply IsS75.drewN | apply IsS75.drew | apply IsS75.set_1 | apply IsS75.set_2) | exact HI0.out)); (case side2 => repeat (first | (with_reducible first | exact HB.out | apply below_alloc | apply pw_below_drewN | apply below_drew1 | refine below_set ?_ (IsS75.ge HI0.out)) | exact HB.out)); rintro e w41 ⟨rfl, hi, hb, hk⟩; refine ⟨_, rfl, ?_⟩; have n0_ := Aside0.mk (KeepBut.trans (by repeat (first | (with_reducible first | exact HK.out | apply KeepBut.set_ | apply keep_drewN | apply keep_drew | apply keep_alloc) | exact HK.out)) hk (.inl rfl)); have n1_ := Aside0.mk (hb); have n2_ := Aside0.mk (hi); clear HK; clear HB; clear HI0; have HK := n0_; have HB := n1_; have HI0 := n2_; clear n0_ n1_ n2_; (try clear hb); (try clear hb2); (try clear hk); (try clear hi)) | ((with_reducible refine gate_callee (f := 31) rfl ?_); refine goesL_ (some 57) rfl rfl Try.func31 (by kernel_rfl) rfl #[.pointer (some ⟨g, 0, none⟩), .int .i64 120] rfl (by (try simp only [List.map_toArray, List.map_cons, List.map_nil]); first | done | rfl | (simp only [List.length_drop, List.length_take]; rfl)) ?_; (with_reducible refine (spec_l01Below.calls g s0_0 t193 t194 120 t195 t196 t197 w0 _ ?side1 ?side2 A38.out).mono ?_); (case side1 => repeat (first | (with_reducible first | exact HI0.out | apply IsS75.alloc | apply IsS75.drewN | apply IsS75.drew | apply IsS75.set_1 | apply IsS75.set_2) | exact HI0.out)); (case side2 => repeat (first | (with_reducible first | exact HB.out | apply below_alloc | apply pw_below_drewN | apply below_drew1 | refine below_set ?_ (IsS75.ge HI0.out)) | exact HB.out)); rintro e w42 ⟨rfl, hi, hb, hk⟩; refine ⟨_, rfl, ?_⟩; have n0_ := Aside0.mk (KeepBut.trans (by repeat (first | (with_reducible first | exact HK.out | apply KeepBut.set_ | apply keep_drewN | apply keep_drew | apply keep_alloc) | exact HK.out)) hk (.inl rfl)); have n1_ := Aside0.mk (hb); have n2_ := Aside0.mk (hi); clear HK; clear HB; clear HI0; have HK := n0_; have HB := n1_; have HI0 := n2_; clear n0_ n1_ n2_; (try clear hb); (try clear hb2); (try clear hk); (try clear hi)) | ((with_reducible refine gate_callee (f := 42) rfl ?_); refine goesL_ (some 59) rfl rfl Try.func42 (by kernel_rfl) rfl #[.bool t189, .int .u64 (IntKind.u64.wrap (Int.tdiv t192 2048)), .int .i64 (wrap64 (t195 - 80)), .bool false] rfl (by (try simp only [List.map_toArray, List.map_cons, List.map_nil]); first | done | rfl | (simp only [List.length_drop, List.length_take]; rfl)) ?_; (with_reducible refine (spec_RoundTo.calls kj14 t189 (IntKind.u64.wrap (Int.tdiv t192 2048)) (wrap64 (t195 - 80)) false t198 _ A39.out).mono ?_); rintro e w' ⟨rfl, ⟨nd, rfl⟩⟩; refine ⟨_, rfl, ?_⟩))
                go_ret
                exact ⟨by first | rfl | (simp; done) | (simp [errW_none, errW_some] <;> rfl) | (simp [*, errW_none, errW_some] <;> rfl) | (simp [bne, List.isEmpty_iff]; done) | (rw [Bool.eq_iff_iff]; simp), by repeat (first | (with_reducible first | exact HI0.out | apply IsS75.alloc | apply IsS75.drewN | apply IsS75.drew | apply IsS75.set_1 | apply IsS75.set_2) | exact HI0.out), by repeat (first | (with_reducible first | exact HB.out | apply below_alloc | apply pw_below_drewN | apply below_drew1 | refine below_set ?_ (IsS75.ge HI0.out)) | exact HB.out), by repeat (first | (with_reducible first | exact HK.out | apply KeepBut.set_ | apply keep_drewN | apply keep_drew | apply keep_alloc) | exact HK.out)⟩
              · rw [if_neg c35] at H
                have c35b0 : (t156 == 5) = false := beq_eq_false_iff_ne.mpr c35
                have c35b1 : (t156 != 5) = true := bne_iff_ne.mpr c35
                replace H := Option.bind_eq_some_iff.mp H
                obtain ⟨⟨t199, t200, t201⟩, A430, H⟩ := H
                replace H : (some (t199, t200, t201)) = some (r1, r2, r3) := H
                have A43 := Aside0.mk A430
                clear A430
                simp only [Option.some.injEq, Prod.mk.injEq] at H
                obtain ⟨rfl, rfl, rfl⟩ := H
                go_wp2_with (first | ((with_reducible refine gate_callee (f := 72) rfl ?_); refine goesL_ (some 61) rfl rfl Try.func72 (by kernel_rfl) rfl #[.pointer (some ⟨g, 0, none⟩)] rfl (by (try simp only [List.map_toArray, List.map_cons, List.map_nil]); first | done | rfl | (simp only [List.length_drop, List.length_take]; rfl)) ?_; (with_reducible refine (spec_l03Bits64.calls g s0_0 t157 t158 t199 t200 t201 w0 _ ?side1 ?side2 A43.out).mono ?_); (case side1 => repeat (first | (with_reducible first | exact HI0.out | apply IsS75.alloc | apply IsS75.drewN | apply IsS75.drew | apply IsS75.set_1 | apply IsS75.set_2) | exact HI0.out)); (case side2 => repeat (first | (with_reducible first | exact HB.out | apply below_alloc | apply pw_below_drewN | apply below_drew1 | refine below_set ?_ (IsS75.ge HI0.out)) | exact HB.out)); rintro e w44 ⟨rfl, hi, hb, hk⟩; refine ⟨_, rfl, ?_⟩; have n0_ := Aside0.mk (KeepBut.trans (by repeat (first | (with_reducible first | exact HK.out | apply KeepBut.set_ | apply keep_drewN | apply keep_drew | apply keep_alloc) | exact HK.out)) hk (.inl rfl)); have n1_ := Aside0.mk (hb); have n2_ := Aside0.mk (hi); clear HK; clear HB; clear HI0; have HK := n0_; have HB := n1_; have HI0 := n2_; clear n0_ n1_ n2_; (try clear hb); (try clear hb2); (try clear hk); (try clear hi)))
                go_ret
                exact ⟨by first | rfl | (simp; done) | (simp [errW_none, errW_some] <;> rfl) | (simp [*, errW_none, errW_some] <;> rfl) | (simp [bne, List.isEmpty_iff]; done) | (rw [Bool.eq_iff_iff]; simp), by repeat (first | (with_reducible first | exact HI0.out | apply IsS75.alloc | apply IsS75.drewN | apply IsS75.drew | apply IsS75.set_1 | apply IsS75.set_2) | exact HI0.out), by repeat (first | (with_reducible first | exact HB.out | apply below_alloc | apply pw_below_drewN | apply below_drew1 | refine below_set ?_ (IsS75.ge HI0.out)) | exact HB.out), by repeat (first | (with_reducible first | exact HK.out | apply KeepBut.set_ | apply keep_drewN | apply keep_drew | apply keep_alloc) | exact HK.out)⟩
def spec_DrawNumbers.f (k : Nat) (l0 : List Int) : Option (Int × Int × Int) := (spec_l01New.f k l0).bind fun bt202 => ((spec_l03Number.f k bt202.1 bt202.2.1 bt202.2.2).bind fun bt206 => ((spec_l03Number.f k bt202.1 bt206.2.1 bt206.2.2).bind fun bt209 => ((spec_l03Number.f k bt202.1 bt209.2.1 bt209.2.2).bind fun bt212 => (some (bt206.1, bt209.1, bt212.1)))))
theorem spec_DrawNumbers.mono : ∀ a0 k, LeO (spec_DrawNumbers.f k a0) (spec_DrawNumbers.f (k + 1) a0) := by
  intro a0 k
  unfold spec_DrawNumbers.f
  repeat' first
      | (with_reducible exact spec_l01New.mono _ _)
      | (with_reducible exact spec_l03Number.mono _ _ _ _)
      | (with_reducible exact LeO.refl _)
      | (with_reducible exact LeO.none _)
      | (with_reducible refine LeO.ite ?_ ?_)
      | (with_reducible refine LeO.bind ?_ (fun _ => ?_))
      | exact spec_l01New.mono _ _
      | exact spec_l03Number.mono _ _ _ _
      | exact LeO.none _
      | refine LeO.ite ?_ ?_
      | refine LeO.bind ?_ (fun _ => ?_)
set_option maxHeartbeats 8000000 in
set_option maxRecDepth 100000 in
theorem spec_DrawNumbers.calls (k : Nat) (A0 : Option Addr) (c0 : Nat) (l0 : List Int) (r1 : Int) (r2 : Int) (r3 : Int) (w : World) (hr0 : Kd.C (Kd.int .u8) w A0 l0.length l0) (hc0 : l0.length ≤ c0) (h : spec_DrawNumbers.f k l0 = some (r1, r2, r3)) :
    Calls Try.prog 15 #[.slice A0 l0.length c0] w fun e w' => e = .returned (.tuple #[.int .u64 r1, .int .u64 r2, .int .u64 r3]) ∧ Below w.heap.size w w' := by
  have HR0 := Aside0.mk hr0
  have HC0 := Aside0.mk hc0
  clear hr0 hc0
  have HB := Aside0.mk (Below.refl w.heap.size w)
  have H : ((spec_l01New.f k l0).bind fun bt202 => ((spec_l03Number.f k bt202.1 bt202.2.1 bt202.2.2).bind fun bt206 => ((spec_l03Number.f k bt202.1 bt206.2.1 bt206.2.2).bind fun bt209 => ((spec_l03Number.f k bt202.1 bt209.2.1 bt209.2.2).bind fun bt212 => (some (bt206.1, bt209.1, bt212.1)))))) = some (r1, r2, r3) := h
  clear h
  replace H := Option.bind_eq_some_iff.mp H
  obtain ⟨⟨t202, t203, t204⟩, A20, H⟩ := H
  replace H : ((spec_l03Number.f k t202 t203 t204).bind fun bt206 => ((spec_l03Number.f k t202 bt206.2.1 bt206.2.2).bind fun bt209 => ((spec_l03Number.f k t202 bt209.2.1 bt209.2.2).bind fun bt212 => (some (bt206.1, bt209.1, bt212.1))))) = some (r1, r2, r3) := H
  have A2 := Aside0.mk A20
  clear A20
  replace H := Option.bind_eq_some_iff.mp H
  obtain ⟨⟨t206, t207, t208⟩, A30, H⟩ := H
  replace H : ((spec_l03Number.f k t202 t207 t208).bind fun bt209 => ((spec_l03Number.f k t202 bt209.2.1 bt209.2.2).bind fun bt212 => (some (t206, bt209.1, bt212.1)))) = some (r1, r2, r3) := H
  have A3 := Aside0.mk A30
  clear A30
  replace H := Option.bind_eq_some_iff.mp H
  obtain ⟨⟨t209, t210, t211⟩, A40, H⟩ := H
  replace H : ((spec_l03Number.f k t202 t210 t211).bind fun bt212 => (some (t206, t209, bt212.1))) = some (r1, r2, r3) := H
  have A4 := Aside0.mk A40
  clear A40
  replace H := Option.bind_eq_some_iff.mp H
  obtain ⟨⟨t212, t213, t214⟩, A50, H⟩ := H
  replace H : (some (t206, t209, t212)) = some (r1, r2, r3) := H
  have A5 := Aside0.mk A50
  clear A50
  simp only [Option.some.injEq, Prod.mk.injEq] at H
  obtain ⟨rfl, rfl, rfl⟩ := H
  go_enter Try.func15, Try.ntmps15
  go_wp2_with (first | ((with_reducible refine gate_callee (f := 29) rfl ?_); refine goesL_ (some 7) rfl rfl Try.func29 (by kernel_rfl) rfl #[.slice A0 l0.length c0] rfl (by (try simp only [List.map_toArray, List.map_cons, List.map_nil]); first | done | rfl | (simp only [List.length_drop, List.length_take]; rfl)) ?_; (with_reducible refine (spec_l01New.calls k _ _ l0 t202 t203 t204 w _ ?side1 ?side2 ?side3 A2.out).mono ?_); (case side1 => repeat (first | (with_reducible first | exact HB.out | apply below_alloc | apply pw_below_drewN | apply below_drew1) | exact HB.out)); (case side2 => exact HR0.out); (case side3 => exact HC0.out); rintro e w6 ⟨g205, rfl, hi, hb, hb2⟩; refine ⟨_, rfl, ?_⟩; have n0_ := Aside0.mk (hb); have n1_ := Aside0.mk (hi); clear HB; have HB := n0_; have HI205 := n1_; clear n0_ n1_; (try clear hb); (try clear hb2); (try clear hk); (try clear hi)) | ((with_reducible refine gate_callee (f := 40) rfl ?_); refine goesL_ (some 9) rfl rfl Try.func40 (by kernel_rfl) rfl #[.pointer (some ⟨g205, 0, none⟩)] rfl (by (try simp only [List.map_toArray, List.map_cons, List.map_nil]); first | done | rfl | (simp only [List.length_drop, List.length_take]; rfl)) ?_; (with_reducible refine (spec_l03Number.calls k g205 t202 t203 t204 t206 t207 t208 w _ ?side1 ?side2 A3.out).mono ?_); (case side1 => repeat (first | (with_reducible first | exact HI205.out | apply IsS75.alloc | apply IsS75.drewN | apply IsS75.drew | apply IsS75.set_1 | apply IsS75.set_2) | exact HI205.out)); (case side2 => repeat (first | (with_reducible first | exact HB.out | apply below_alloc | apply pw_below_drewN | apply below_drew1 | refine below_set ?_ (IsS75.ge HI205.out)) | exact HB.out)); rintro e w7 ⟨rfl, hi, hb, hk⟩; refine ⟨_, rfl, ?_⟩; have n0_ := Aside0.mk (hb); have n1_ := Aside0.mk (hi); clear HB; clear HI205; have HB := n0_; have HI205 := n1_; clear n0_ n1_; (try clear hb); (try clear hb2); (try clear hk); (try clear hi)) | ((with_reducible refine gate_callee (f := 40) rfl ?_); refine goesL_ (some 11) rfl rfl Try.func40 (by kernel_rfl) rfl #[.pointer (some ⟨g205, 0, none⟩)] rfl (by (try simp only [List.map_toArray, List.map_cons, List.map_nil]); first | done | rfl | (simp only [List.length_drop, List.length_take]; rfl)) ?_; (with_reducible refine (spec_l03Number.calls k g205 t202 t207 t208 t209 t210 t211 w _ ?side1 ?side2 A4.out).mono ?_); (case side1 => repeat (first | (with_reducible first | exact HI205.out | apply IsS75.alloc | apply IsS75.drewN | apply IsS75.drew | apply IsS75.set_1 | apply IsS75.set_2) | exact HI205.out)); (case side2 => repeat (first | (with_reducible first | exact HB.out | apply below_alloc | apply pw_below_drewN | apply below_drew1 | refine below_set ?_ (IsS75.ge HI205.out)) | exact HB.out)); rintro e w8 ⟨rfl, hi, hb, hk⟩; refine ⟨_, rfl, ?_⟩; have n0_ := Aside0.mk (hb); have n1_ := Aside0.mk (hi); clear HB; clear HI205; have HB := n0_; have HI205 := n1_; clear n0_ n1_; (try clear hb); (try clear hb2); (try clear hk); (try clear hi)) | ((with_reducible refine gate_callee (f := 40) rfl ?_); refine goesL_ (some 13) rfl rfl Try.func40 (by kernel_rfl) rfl #[.pointer (some ⟨g205, 0, none⟩)] rfl (by (try simp only [List.map_toArray, List.map_cons, List.map_nil]); first | done | rfl | (simp only [List.length_drop, List.length_take]; rfl)) ?_; (with_reducible refine (spec_l03Number.calls k g205 t202 t210 t211 t212 t213 t214 w _ ?side1 ?side2 A5.out).mono ?_); (case side1 => repeat (first | (with_reducible first | exact HI205.out | apply IsS75.alloc | apply IsS75.drewN | apply IsS75.drew | apply IsS75.set_1 | apply IsS75.set_2) | exact HI205.out)); (case side2 => repeat (first | (with_reducible first | exact HB.out | apply below_alloc | apply pw_below_drewN | apply below_drew1 | refine below_set ?_ (IsS75.ge HI205.out)) | exact HB.out)); rintro e w9 ⟨rfl, hi, hb, hk⟩; refine ⟨_, rfl, ?_⟩; have n0_ := Aside0.mk (hb); have n1_ := Aside0.mk (hi); clear HB; clear HI205; have HB := n0_; have HI205 := n1_; clear n0_ n1_; (try clear hb); (try clear hb2); (try clear hk); (try clear hi)))
  go_ret3
  exact ⟨by first | rfl | (simp; done) | (simp [errW_none, errW_some] <;> rfl) | (simp [*, errW_none, errW_some] <;> rfl) | (simp [bne, List.isEmpty_iff]; done) | (rw [Bool.eq_iff_iff]; simp), by repeat (first | (with_reducible first | exact HB.out | apply below_alloc | apply pw_below_drewN | apply below_drew1 | refine below_set ?_ (IsS75.ge HI205.out)) | exact HB.out)⟩
end Go.Proofs.Ytokhgodcamhibaa.QFnRoots
end
section
namespace Go.Proofs.Ytokhgodcamhibaa.QFnRoots
open Go.RowKit Go.Proofs.YtokhgodcamhibaaW.PrintWords Go.Proofs.YtokhgodcamhibaaW.PrintLast Go.Proofs.YtokhgodcamhibaaW.PrintMore Go.Proofs.Ytokhgodcamhibaa.QFnExactDoBinary Go.Proofs.Ytokhgodcamhibaa.QFnQuotients
attribute [local go_sem] max_two min_two max_three min_three max_four min_four run_field34_0 max2_mx min2_mn   -- for this text's walks alone
set_option linter.unusedVariables false
set_option linter.unusedSimpArgs false
mutual
def spec_Sqrt.j0 : Nat → Int → Bool → Int → Bool → Int → Int → Option (Int)
  | 0, _, _, _, _, _, _ => none
  | k + 1, x0, x25, x225000, x225001, x225002, x225003 => if x25 = true then (some x0) else (if x225000 = 4 then (spec_Sqrt.j1 k x225001 x225000 x225001 x225002 x225003) else (spec_Sqrt.j1 k true x225000 x225001 x225002 x225003))
def spec_Sqrt.j1 : Nat → Bool → Int → Bool → Int → Int → Option (Int)
  | 0, _, _, _, _, _ => none
  | k + 1, x33, x225000, x225001, x225002, x225003 => if x33 = true then (some 9221120237041090560) else ((spec_l05Up.f k x225000 x225001 x225002 x225003).bind fun bt225 => (if (Int.tmod bt225.2.2.2 2) = 0 then (spec_Sqrt.j2 k bt225.2.2.1 bt225.2.2.2) else (spec_Sqrt.j2 k (IntKind.u64.wrap (bt225.2.2.1 * 2)) (wrap64 (bt225.2.2.2 - 1)))))
def spec_Sqrt.j2 : Nat → Int → Int → Option (Int)
  | 0, _, _ => none
  | k + 1, x4, x5 => spec_Sqrt.l0 k x4 x5 0 0 27
def spec_Sqrt.l0 : Nat → Int → Int → Int → Int → Int → Option (Int)
  | 0, _, _, _, _, _ => none
  | k + 1, x4, x5, x6, x7, x8 => if x8 ≥ (-31) then (if x8 ≥ 0 then ((spec_l03Pow.f k (wrap64 (2 * x8))).bind fun t230 => (if t230 = 0 then (none) else (if (IntKind.u64.wrap ((IntKind.u64.wrap (x7 * 4)) + (Int.tmod (IntKind.u64.wrap (Int.tdiv x4 t230)) 4))) ≥ (IntKind.u64.wrap ((IntKind.u64.wrap (x6 * 4)) + 1)) then (spec_Sqrt.l0 k x4 x5 (IntKind.u64.wrap ((IntKind.u64.wrap (x6 * 2)) + 1)) (IntKind.u64.wrap ((IntKind.u64.wrap ((IntKind.u64.wrap (x7 * 4)) + (Int.tmod (IntKind.u64.wrap (Int.tdiv x4 t230)) 4))) - (IntKind.u64.wrap ((IntKind.u64.wrap (x6 * 4)) + 1)))) (wrap64 (x8 - 1))) else (spec_Sqrt.l0 k x4 x5 (IntKind.u64.wrap (x6 * 2)) (IntKind.u64.wrap ((IntKind.u64.wrap (x7 * 4)) + (Int.tmod (IntKind.u64.wrap (Int.tdiv x4 t230)) 4))) (wrap64 (x8 - 1)))))) else (if (IntKind.u64.wrap ((IntKind.u64.wrap (x7 * 4)))) ≥ (IntKind.u64.wrap ((IntKind.u64.wrap (x6 * 4)) + 1)) then (spec_Sqrt.l0 k x4 x5 (IntKind.u64.wrap ((IntKind.u64.wrap (x6 * 2)) + 1)) (IntKind.u64.wrap ((IntKind.u64.wrap ((IntKind.u64.wrap (x7 * 4)))) - (IntKind.u64.wrap ((IntKind.u64.wrap (x6 * 4)) + 1)))) (wrap64 (x8 - 1))) else (spec_Sqrt.l0 k x4 x5 (IntKind.u64.wrap (x6 * 2)) (IntKind.u64.wrap ((IntKind.u64.wrap (x7 * 4)))) (wrap64 (x8 - 1))))) else ((spec_RoundTo.f k false x6 (wrap64 ((wrap64 (Int.tdiv x5 2)) - 31)) (decide (x7 > 0))).bind fun t229 => (some t229))
end
def spec_Sqrt.f (k : Nat) (a0 : Int) : Option (Int) := (spec_PartsOfNumber.f k a0).bind fun bt220 => (if bt220.1 = 3 then (spec_Sqrt.j0 k a0 true bt220.1 bt220.2.1 bt220.2.2.1 bt220.2.2.2) else (if bt220.1 = 2 then (spec_Sqrt.j0 k a0 (!bt220.2.1) bt220.1 bt220.2.1 bt220.2.2.1 bt220.2.2.2) else (spec_Sqrt.j0 k a0 false bt220.1 bt220.2.1 bt220.2.2.1 bt220.2.2.2)))
theorem spec_Sqrt.mono_l : ∀ k, (∀ y0 y1 y2 y3 y4 y5, LeO (spec_Sqrt.j0 k y0 y1 y2 y3 y4 y5) (spec_Sqrt.j0 (k + 1) y0 y1 y2 y3 y4 y5)) ∧ (∀ y0 y1 y2 y3 y4, LeO (spec_Sqrt.j1 k y0 y1 y2 y3 y4) (spec_Sqrt.j1 (k + 1) y0 y1 y2 y3 y4)) ∧ (∀ y0 y1, LeO (spec_Sqrt.j2 k y0 y1) (spec_Sqrt.j2 (k + 1) y0 y1)) ∧ (∀ y0 y1 y2 y3 y4, LeO (spec_Sqrt.l0 k y0 y1 y2 y3 y4) (spec_Sqrt.l0 (k + 1) y0 y1 y2 y3 y4))
  | 0 => ⟨fun _ _ _ _ _ _ r h => by simp [spec_Sqrt.j0] at h, fun _ _ _ _ _ r h => by simp [spec_Sqrt.j1] at h, fun _ _ r h => by simp [spec_Sqrt.j2] at h, fun _ _ _ _ _ r h => by simp [spec_Sqrt.l0] at h⟩
  | k + 1 => by
    obtain ⟨ih0, ih1, ih2, ih3⟩ := spec_Sqrt.mono_l k
    refine ⟨?_, ?_, ?_, ?_⟩
    · intro y0 y1 y2 y3 y4 y5
      unfold spec_Sqrt.j0
      repeat' first
      | (with_reducible exact ih0 _ _ _ _ _ _)
      | (with_reducible exact ih1 _ _ _ _ _)
      | (with_reducible exact ih2 _ _)
      | (with_reducible exact ih3 _ _ _ _ _)
      | (with_reducible exact spec_PartsOfNumber.mono _ _)
      | (with_reducible exact spec_RoundTo.mono _ _ _ _ _)
      | (with_reducible exact spec_l03Pow.mono _ _)
      | (with_reducible exact spec_l05Up.mono _ _ _ _ _)
      | (with_reducible exact LeO.refl _)
      | (with_reducible exact LeO.none _)
      | (with_reducible refine LeO.ite ?_ ?_)
      | (with_reducible refine LeO.bind ?_ (fun _ => ?_))
      | exact ih0 _ _ _ _ _ _
      | exact ih1 _ _ _ _ _
      | exact ih2 _ _
      | exact ih3 _ _ _ _ _
      | exact spec_PartsOfNumber.mono _ _
      | exact spec_RoundTo.mono _ _ _ _ _
      | exact spec_l03Pow.mono _ _
      | exact spec_l05Up.mono _ _ _ _ _
      | exact LeO.none _
      | refine LeO.ite ?_ ?_
      | refine LeO.bind ?_ (fun _ => ?_)
    · intro y0 y1 y2 y3 y4
      unfold spec_Sqrt.j1
      repeat' first
      | (with_reducible exact ih0 _ _ _ _ _ _)
      | (with_reducible exact ih1 _ _ _ _ _)
      | (with_reducible exact ih2 _ _)
      | (with_reducible exact ih3 _ _ _ _ _)
      | (with_reducible exact spec_PartsOfNumber.mono _ _)
      | (with_reducible exact spec_RoundTo.mono _ _ _ _ _)
      | (with_reducible exact spec_l03Pow.mono _ _)
      | (with_reducible exact spec_l05Up.mono _ _ _ _ _)
      | (with_reducible exact LeO.refl _)
      | (with_reducible exact LeO.none _)
      | (with_reducible refine LeO.ite ?_ ?_)
      | (with_reducible refine LeO.bind ?_ (fun _ => ?_))
      | exact ih0 _ _ _ _ _ _
      | exact ih1 _ _ _ _ _
      | exact ih2 _ _
      | exact ih3 _ _ _ _ _
      | exact spec_PartsOfNumber.mono _ _
      | exact spec_RoundTo.mono _ _ _ _ _
      | exact spec_l03Pow.mono _ _
      | exact spec_l05Up.mono _ _ _ _ _
      | exact LeO.none _
      | refine LeO.ite ?_ ?_
      | refine LeO.bind ?_ (fun _ => ?_)
    · intro y0 y1
      unfold spec_Sqrt.j2
      repeat' first
      | (with_reducible exact ih0 _ _ _ _ _ _)
      | (with_reducible exact ih1 _ _ _ _ _)
      | (with_reducible exact ih2 _ _)
      | (with_reducible exact ih3 _ _ _ _ _)
      | (with_reducible exact spec_PartsOfNumber.mono _ _)
      | (with_reducible exact spec_RoundTo.mono _ _ _ _ _)
      | (with_reducible exact spec_l03Pow.mono _ _)
      | (with_reducible exact spec_l05Up.mono _ _ _ _ _)
      | (with_reducible exact LeO.refl _)
      | (with_reducible exact LeO.none _)
      | (with_reducible refine LeO.ite ?_ ?_)
      | (with_reducible refine LeO.bind ?_ (fun _ => ?_))
      | exact ih0 _ _ _ _ _ _
      | exact ih1 _ _ _ _ _
      | exact ih2 _ _
      | exact ih3 _ _ _ _ _
      | exact spec_PartsOfNumber.mono _ _
      | exact spec_RoundTo.mono _ _ _ _ _
      | exact spec_l03Pow.mono _ _
      | exact spec_l05Up.mono _ _ _ _ _
      | exact LeO.none _
      | refine LeO.ite ?_ ?_
      | refine LeO.bind ?_ (fun _ => ?_)
    · intro y0 y1 y2 y3 y4
      unfold spec_Sqrt.l0
      repeat' first
      | (with_reducible exact ih0 _ _ _ _ _ _)
      | (with_reducible exact ih1 _ _ _ _ _)
      | (with_reducible exact ih2 _ _)
      | (with_reducible exact ih3 _ _ _ _ _)
      | (with_reducible exact spec_PartsOfNumber.mono _ _)
      | (with_reducible exact spec_RoundTo.mono _ _ _ _ _)
      | (with_reducible exact spec_l03Pow.mono _ _)
      | (with_reducible exact spec_l05Up.mono _ _ _ _ _)
      | (with_reducible exact LeO.refl _)
      | (with_reducible exact LeO.none _)
      | (with_reducible refine LeO.ite ?_ ?_)
      | (with_reducible refine LeO.bind ?_ (fun _ => ?_))
      | exact ih0 _ _ _ _ _ _
      | exact ih1 _ _ _ _ _
      | exact ih2 _ _
      | exact ih3 _ _ _ _ _
      | exact spec_PartsOfNumber.mono _ _
      | exact spec_RoundTo.mono _ _ _ _ _
      | exact spec_l03Pow.mono _ _
      | exact spec_l05Up.mono _ _ _ _ _
      | exact LeO.none _
      | refine LeO.ite ?_ ?_
      | refine LeO.bind ?_ (fun _ => ?_)
theorem spec_Sqrt.mono : ∀ a0 k, LeO (spec_Sqrt.f k a0) (spec_Sqrt.f (k + 1) a0) := by
  intro a0 k
  obtain ⟨ih0, ih1, ih2, ih3⟩ := spec_Sqrt.mono_l k
  unfold spec_Sqrt.f
  repeat' first
      | (with_reducible exact ih0 _ _ _ _ _ _)
      | (with_reducible exact ih1 _ _ _ _ _)
      | (with_reducible exact ih2 _ _)
      | (with_reducible exact ih3 _ _ _ _ _)
      | (with_reducible exact spec_PartsOfNumber.mono _ _)
      | (with_reducible exact spec_RoundTo.mono _ _ _ _ _)
      | (with_reducible exact spec_l03Pow.mono _ _)
      | (with_reducible exact spec_l05Up.mono _ _ _ _ _)
      | (with_reducible exact LeO.refl _)
      | (with_reducible exact LeO.none _)
      | (with_reducible refine LeO.ite ?_ ?_)
      | (with_reducible refine LeO.bind ?_ (fun _ => ?_))
      | exact ih0 _ _ _ _ _ _
      | exact ih1 _ _ _ _ _
      | exact ih2 _ _
      | exact ih3 _ _ _ _ _
      | exact spec_PartsOfNumber.mono _ _
      | exact spec_RoundTo.mono _ _ _ _ _
      | exact spec_l03Pow.mono _ _
      | exact spec_l05Up.mono _ _ _ _ _
      | exact LeO.none _
      | refine LeO.ite ?_ ?_
      | refine LeO.bind ?_ (fun _ => ?_)
set_option maxHeartbeats 8000000 in
set_option maxRecDepth 100000 in
theorem spec_Sqrt.calls (k : Nat) (a0 : Int) (r : Int) (w : World) (h : spec_Sqrt.f k a0 = some r) :
    Calls Try.prog 17 #[.int .u64 a0] w fun e w' => e = .returned (.int .u64 r) ∧ Below w.heap.size w w' := by
  have hu34 := Try.underlying34
  have HB := Aside0.mk (Below.refl w.heap.size w)
  have H : ((spec_PartsOfNumber.f k a0).bind fun bt220 => (if bt220.1 = 3 then (spec_Sqrt.j0 k a0 true bt220.1 bt220.2.1 bt220.2.2.1 bt220.2.2.2) else (if bt220.1 = 2 then (spec_Sqrt.j0 k a0 (!bt220.2.1) bt220.1 bt220.2.1 bt220.2.2.1 bt220.2.2.2) else (spec_Sqrt.j0 k a0 false bt220.1 bt220.2.1 bt220.2.2.1 bt220.2.2.2)))) = some r := h
  clear h
  replace H := Option.bind_eq_some_iff.mp H
  obtain ⟨⟨t220, t221, t222, t223⟩, A20, H⟩ := H
  replace H : (if t220 = 3 then (spec_Sqrt.j0 k a0 true t220 t221 t222 t223) else (if t220 = 2 then (spec_Sqrt.j0 k a0 (!t221) t220 t221 t222 t223) else (spec_Sqrt.j0 k a0 false t220 t221 t222 t223))) = some r := H
  have A2 := Aside0.mk A20
  clear A20
  have HC3 := Aside0.mk H
  clear H
  go_enter Try.func17, Try.ntmps17
  go_upto_region 2 with (first | ((with_reducible refine gate_callee (f := 16) rfl ?_); refine goesL_ (some 12) rfl rfl Try.func16 (by kernel_rfl) rfl #[.int .u64 a0] rfl (by (try simp only [List.map_toArray, List.map_cons, List.map_nil]); first | done | rfl | (simp only [List.length_drop, List.length_take]; rfl)) ?_; (with_reducible refine (spec_PartsOfNumber.calls k a0 t220 t221 t222 t223 _ A2.out).mono ?_); rintro e w4 ⟨rfl, hb⟩; refine ⟨_, rfl, ?_⟩; have n0_ := Aside0.mk (below_step (by repeat (first | (with_reducible first | exact HB.out | apply below_alloc | apply pw_below_drewN | apply below_drew1) | exact HB.out)) hb); clear HB; have HB := n0_; clear n0_; (try clear hb); (try clear hb2); (try clear hk); (try clear hi)) | ((with_reducible refine gate_dst (N := 3) rfl ?_); refine box_event ?hg (N := 3) ?hd (cs := #[.int .i64 0, .bool false, .int .u64 0, .int .i64 0]) (t := 34) ?hr ?_; (case hd => rfl); (case hg => rfl); (case hr => first | (go_simp; done) | (go_simp; rfl)); intro gb224 hg w5 hbox hb; have n0_ := Aside0.mk (below_step (by repeat (first | (with_reducible first | exact HB.out | apply below_alloc | apply pw_below_drewN | apply below_drew1) | exact HB.out)) hb); have n1_ := Aside0.mk (hbox); have n2_ := Aside0.mk ((by rw [hg]; exact (below_size (by repeat (first | (with_reducible first | exact HB.out | apply below_alloc | apply pw_below_drewN | apply below_drew1) | exact HB.out))) : w.heap.size ≤ gb224)); have n3_ := Aside0.mk ((by rw [hg]; exact (below_size (by repeat (first | (with_reducible first | exact HB.out | apply below_alloc | apply pw_below_drewN | apply below_drew1) | exact HB.out))) : w.heap.size ≤ gb224)); clear HB; have HB := n0_; have BK224 := n1_; have GW224 := n2_; have GE224 := n3_; clear n0_ n1_ n2_ n3_; clear hb hbox hg; have hcz6_0 : w5.cell? ⟨gb224, 0, none⟩ = some (.int .i64 0) := (blk_cell BK224.out 0).trans rfl; have hcz6_1 : w5.cell? ⟨gb224, 1, none⟩ = some (.bool false) := (blk_cell BK224.out 1).trans rfl; have hcz6_2 : w5.cell? ⟨gb224, 2, none⟩ = some (.int .u64 0) := (blk_cell BK224.out 2).trans rfl; have hcz6_3 : w5.cell? ⟨gb224, 3, none⟩ = some (.int .i64 0) := (blk_cell BK224.out 3).trans rfl; have hfz6_0 := blk_frozen BK224.out 0; have hfz6_1 := blk_frozen BK224.out 1; have hfz6_2 := blk_frozen BK224.out 2; have hfz6_3 := blk_frozen BK224.out 3))
  (try simp only [Act.put, List.setIfInBounds_toArray, List.set_cons_zero, List.set_cons_succ])
  go_cut [25] (fun v25 wc => ∃ (kq : Nat) (x25_2 : Bool), v25 = .bool x25_2 ∧ Aside0 (spec_Sqrt.j0 kq a0 x25_2 t220 t221 t222 t223 = some r) ∧ Aside0 (kq ≤ k) ∧ Aside0 (wc.heap[gb224]? = some (.cells #[.int .i64 t220, .bool t221, .int .u64 t222, .int .i64 t223] 34 (0, 0))) ∧ Aside0 (Below w.heap.size w wc))
  case first =>
    have H := HC3.out
    clear HC3
    by_cases c7 : t220 = 3
    · rw [if_pos c7] at H
      have c7b0 : (t220 == 3) = true := beq_iff_eq.mpr c7
      have c7b1 : (t220 != 3) = false := bne_eq_false_iff_eq.mpr c7
      clear c7
      (first | rw [c7b0] | (simp only [i64_w, i32_w]; rw [c7b0]) | skip)
      have H' := Aside0.mk H
      clear H
      have hcz8_0 : w5.cell? ⟨gb224, 0, none⟩ = some (.int .i64 0) := (blk_cell BK224.out 0).trans rfl
      have hcz8_1 : w5.cell? ⟨gb224, 1, none⟩ = some (.bool false) := (blk_cell BK224.out 1).trans rfl
      have hcz8_2 : w5.cell? ⟨gb224, 2, none⟩ = some (.int .u64 0) := (blk_cell BK224.out 2).trans rfl
      have hcz8_3 : w5.cell? ⟨gb224, 3, none⟩ = some (.int .i64 0) := (blk_cell BK224.out 3).trans rfl
      have hfz8_0 := blk_frozen BK224.out 0
      have hfz8_1 := blk_frozen BK224.out 1
      have hfz8_2 := blk_frozen BK224.out 2
      have hfz8_3 := blk_frozen BK224.out 3
      go_wp2
      go_meet
      case rel => exact ⟨_, (true), (by first | rfl | (simp; done) | (simp [*]; done)), H', ⟨by first | omega | exact Nat.le_refl _⟩, ⟨by (with_reducible repeat (first | refine blk_drewN ?_ _ | refine blk_drew ?_ | refine blk_alloc ?_ _)); refine blk_put (cs := #[.int .i64 t220, .bool t221, .int .u64 t222, .int .i64 0]) ?_ 3 _ rfl; (with_reducible repeat (first | refine blk_drewN ?_ _ | refine blk_drew ?_ | refine blk_alloc ?_ _)); refine blk_put (cs := #[.int .i64 t220, .bool t221, .int .u64 0, .int .i64 0]) ?_ 2 _ rfl; (with_reducible repeat (first | refine blk_drewN ?_ _ | refine blk_drew ?_ | refine blk_alloc ?_ _)); refine blk_put (cs := #[.int .i64 t220, .bool false, .int .u64 0, .int .i64 0]) ?_ 1 _ rfl; (with_reducible repeat (first | refine blk_drewN ?_ _ | refine blk_drew ?_ | refine blk_alloc ?_ _)); refine blk_put (cs := #[.int .i64 0, .bool false, .int .u64 0, .int .i64 0]) ?_ 0 _ rfl; (with_reducible repeat (first | refine blk_drewN ?_ _ | refine blk_drew ?_ | refine blk_alloc ?_ _)); exact BK224.out⟩, ⟨by repeat (first | (with_reducible first | exact HB.out | apply below_alloc | apply pw_below_drewN | apply below_drew1 | refine below_set ?_ GE224.out) | exact HB.out)⟩⟩
    · rw [if_neg c7] at H
      have c7b0 : (t220 == 3) = false := beq_eq_false_iff_ne.mpr c7
      have c7b1 : (t220 != 3) = true := bne_iff_ne.mpr c7
      (first | rw [c7b0] | (simp only [i64_w, i32_w]; rw [c7b0]) | skip)
      by_cases c9 : t220 = 2
      · rw [if_pos c9] at H
        have c9b0 : (t220 == 2) = true := beq_iff_eq.mpr c9
        have c9b1 : (t220 != 2) = false := bne_eq_false_iff_eq.mpr c9
        clear c9
        have H' := Aside0.mk H
        clear H
        have hcz10_0 : w5.cell? ⟨gb224, 0, none⟩ = some (.int .i64 0) := (blk_cell BK224.out 0).trans rfl
        have hcz10_1 : w5.cell? ⟨gb224, 1, none⟩ = some (.bool false) := (blk_cell BK224.out 1).trans rfl
        have hcz10_2 : w5.cell? ⟨gb224, 2, none⟩ = some (.int .u64 0) := (blk_cell BK224.out 2).trans rfl
        have hcz10_3 : w5.cell? ⟨gb224, 3, none⟩ = some (.int .i64 0) := (blk_cell BK224.out 3).trans rfl
        have hfz10_0 := blk_frozen BK224.out 0
        have hfz10_1 := blk_frozen BK224.out 1
        have hfz10_2 := blk_frozen BK224.out 2
        have hfz10_3 := blk_frozen BK224.out 3
        go_wp2
        go_meet
        case rel => exact ⟨_, (!t221), (by first | rfl | (simp; done) | (simp [*]; done)), H', ⟨by first | omega | exact Nat.le_refl _⟩, ⟨by (with_reducible repeat (first | refine blk_drewN ?_ _ | refine blk_drew ?_ | refine blk_alloc ?_ _)); refine blk_put (cs := #[.int .i64 t220, .bool t221, .int .u64 t222, .int .i64 0]) ?_ 3 _ rfl; (with_reducible repeat (first | refine blk_drewN ?_ _ | refine blk_drew ?_ | refine blk_alloc ?_ _)); refine blk_put (cs := #[.int .i64 t220, .bool t221, .int .u64 0, .int .i64 0]) ?_ 2 _ rfl; (with_reducible repeat (first | refine blk_drewN ?_ _ | refine blk_drew ?_ | refine blk_alloc ?_ _)); refine blk_put (cs := #[.int .i64 t220, .bool false, .int .u64 0, .int .i64 0]) ?_ 1 _ rfl; (with_reducible repeat (first | refine blk_drewN ?_ _ | refine blk_drew ?_ | refine blk_alloc ?_ _)); refine blk_put (cs := #[.int .i64 0, .bool false, .int .u64 0, .int .i64 0]) ?_ 0 _ rfl; (with_reducible repeat (first | refine blk_drewN ?_ _ | refine blk_drew ?_ | refine blk_alloc ?_ _)); exact BK224.out⟩, ⟨by repeat (first | (with_reducible first | exact HB.out | apply below_alloc | apply pw_below_drewN | apply below_drew1 | refine below_set ?_ GE224.out) | exact HB.out)⟩⟩
      · rw [if_neg c9] at H
        have c9b0 : (t220 == 2) = false := beq_eq_false_iff_ne.mpr c9
        have c9b1 : (t220 != 2) = true := bne_iff_ne.mpr c9
        have H' := Aside0.mk H
        clear H
        have hcz11_0 : w5.cell? ⟨gb224, 0, none⟩ = some (.int .i64 0) := (blk_cell BK224.out 0).trans rfl
        have hcz11_1 : w5.cell? ⟨gb224, 1, none⟩ = some (.bool false) := (blk_cell BK224.out 1).trans rfl
        have hcz11_2 : w5.cell? ⟨gb224, 2, none⟩ = some (.int .u64 0) := (blk_cell BK224.out 2).trans rfl
        have hcz11_3 : w5.cell? ⟨gb224, 3, none⟩ = some (.int .i64 0) := (blk_cell BK224.out 3).trans rfl
        have hfz11_0 := blk_frozen BK224.out 0
        have hfz11_1 := blk_frozen BK224.out 1
        have hfz11_2 := blk_frozen BK224.out 2
        have hfz11_3 := blk_frozen BK224.out 3
        go_wp2
        go_meet
        case rel => exact ⟨_, (false), (by first | rfl | (simp; done) | (simp [*]; done)), H', ⟨by first | omega | exact Nat.le_refl _⟩, ⟨by (with_reducible repeat (first | refine blk_drewN ?_ _ | refine blk_drew ?_ | refine blk_alloc ?_ _)); refine blk_put (cs := #[.int .i64 t220, .bool t221, .int .u64 t222, .int .i64 0]) ?_ 3 _ rfl; (with_reducible repeat (first | refine blk_drewN ?_ _ | refine blk_drew ?_ | refine blk_alloc ?_ _)); refine blk_put (cs := #[.int .i64 t220, .bool t221, .int .u64 0, .int .i64 0]) ?_ 2 _ rfl; (with_reducible repeat (first | refine blk_drewN ?_ _ | refine blk_drew ?_ | refine blk_alloc ?_ _)); refine blk_put (cs := #[.int .i64 t220, .bool false, .int .u64 0, .int .i64 0]) ?_ 1 _ rfl; (with_reducible repeat (first | refine blk_drewN ?_ _ | refine blk_drew ?_ | refine blk_alloc ?_ _)); refine blk_put (cs := #[.int .i64 0, .bool false, .int .u64 0, .int .i64 0]) ?_ 0 _ rfl; (with_reducible repeat (first | refine blk_drewN ?_ _ | refine blk_drew ?_ | refine blk_alloc ?_ _)); exact BK224.out⟩, ⟨by repeat (first | (with_reducible first | exact HB.out | apply below_alloc | apply pw_below_drewN | apply below_drew1 | refine below_set ?_ GE224.out) | exact HB.out)⟩⟩
  case rest =>
    clear HC3
    try clear c1
    try clear p2
    try clear c7
    try clear c7b0
    try clear c7b1
    try clear c9
    try clear c9b0
    try clear c9b1
    try clear hcz10_0
    try clear hcz10_1
    try clear hcz10_2
    try clear hcz10_3
    try clear hcz11_0
    try clear hcz11_1
    try clear hcz11_2
    try clear hcz11_3
    try clear hcz6_0
    try clear hcz6_1
    try clear hcz6_2
    try clear hcz6_3
    try clear hcz8_0
    try clear hcz8_1
    try clear hcz8_2
    try clear hcz8_3
    try clear hfz10_0
    try clear hfz10_1
    try clear hfz10_2
    try clear hfz10_3
    try clear hfz11_0
    try clear hfz11_1
    try clear hfz11_2
    try clear hfz11_3
    try clear hfz6_0
    try clear hfz6_1
    try clear hfz6_2
    try clear hfz6_3
    try clear hfz8_0
    try clear hfz8_1
    try clear hfz8_2
    try clear hfz8_3
    obtain ⟨kq, x25_2, rfl, HA, HJ2, BK224, HB⟩ := hcut
    cases kq with
    | zero => exact absurd HA.out (by simp [spec_Sqrt.j0])
    | succ kj2 =>
      have H := HA.out
      clear HA
      simp only [spec_Sqrt.j0] at H
      by_cases c12 : x25_2 = true
      · subst c12
        have H1 : (some a0) = some r := by rw [if_pos rfl] at H; exact H
        clear H
        have H := H1
        clear H1
        obtain rfl := Option.some.inj H
        go_wp2
        go_ret
        exact ⟨by first | rfl | (simp; done) | (simp [errW_none, errW_some] <;> rfl) | (simp [*, errW_none, errW_some] <;> rfl) | (simp [bne, List.isEmpty_iff]; done) | (rw [Bool.eq_iff_iff]; simp), by repeat (first | (with_reducible first | exact HB.out | apply below_alloc | apply pw_below_drewN | apply below_drew1 | refine below_set ?_ GE224.out) | exact HB.out)⟩
      · replace c12 := Bool.eq_false_iff.mpr c12
        subst c12
        have H1 : (if t220 = 4 then (spec_Sqrt.j1 kj2 t221 t220 t221 t222 t223) else (spec_Sqrt.j1 kj2 true t220 t221 t222 t223)) = some r := by rw [if_neg (show ¬ (false = true) by decide)] at H; exact H
        clear H
        have H := H1
        clear H1
        have HC13 := Aside0.mk H
        clear H
        go_upto_region 4 with (fail)
        go_cut [33] (fun v33 wc => ∃ (kq : Nat) (x33_12 : Bool), v33 = .bool x33_12 ∧ Aside0 (spec_Sqrt.j1 kq x33_12 t220 t221 t222 t223 = some r) ∧ Aside0 (kq ≤ kj2) ∧ Aside0 (wc.heap[gb224]? = some (.cells #[.int .i64 t220, .bool t221, .int .u64 t222, .int .i64 t223] 34 (0, 0))) ∧ Aside0 (Below w.heap.size w wc))
        case first =>
          have H := HC13.out
          clear HC13
          by_cases c14 : t220 = 4
          · rw [if_pos c14] at H
            have c14b0 : (t220 == 4) = true := beq_iff_eq.mpr c14
            have c14b1 : (t220 != 4) = false := bne_eq_false_iff_eq.mpr c14
            clear c14
            (first | rw [c14b0] | (simp only [i64_w, i32_w]; rw [c14b0]) | skip)
            have H' := Aside0.mk H
            clear H
            have hcz15_0 : wc.cell? ⟨gb224, 0, none⟩ = some (.int .i64 t220) := (blk_cell BK224.out 0).trans rfl
            have hcz15_1 : wc.cell? ⟨gb224, 1, none⟩ = some (.bool t221) := (blk_cell BK224.out 1).trans rfl
            have hcz15_2 : wc.cell? ⟨gb224, 2, none⟩ = some (.int .u64 t222) := (blk_cell BK224.out 2).trans rfl
            have hcz15_3 : wc.cell? ⟨gb224, 3, none⟩ = some (.int .i64 t223) := (blk_cell BK224.out 3).trans rfl
            have hfz15_0 := blk_frozen BK224.out 0
            have hfz15_1 := blk_frozen BK224.out 1
            have hfz15_2 := blk_frozen BK224.out 2
            have hfz15_3 := blk_frozen BK224.out 3
            go_wp2
            go_meet
            case rel => exact ⟨_, (t221), (by first | rfl | (simp; done) | (simp [*]; done)), H', ⟨by have := HJ2.out; first | omega | exact Nat.le_refl _⟩, ⟨by (with_reducible repeat (first | refine blk_drewN ?_ _ | refine blk_drew ?_ | refine blk_alloc ?_ _)); exact BK224.out⟩, ⟨by repeat (first | (with_reducible first | exact HB.out | apply below_alloc | apply pw_below_drewN | apply below_drew1 | refine below_set ?_ GE224.out) | exact HB.out)⟩⟩
          · rw [if_neg c14] at H
            have c14b0 : (t220 == 4) = false := beq_eq_false_iff_ne.mpr c14
            have c14b1 : (t220 != 4) = true := bne_iff_ne.mpr c14
            (first | rw [c14b0] | (simp only [i64_w, i32_w]; rw [c14b0]) | skip)
            have H' := Aside0.mk H
            clear H
            have hcz16_0 : wc.cell? ⟨gb224, 0, none⟩ = some (.int .i64 t220) := (blk_cell BK224.out 0).trans rfl
            have hcz16_1 : wc.cell? ⟨gb224, 1, none⟩ = some (.bool t221) := (blk_cell BK224.out 1).trans rfl
            have hcz16_2 : wc.cell? ⟨gb224, 2, none⟩ = some (.int .u64 t222) := (blk_cell BK224.out 2).trans rfl
            have hcz16_3 : wc.cell? ⟨gb224, 3, none⟩ = some (.int .i64 t223) := (blk_cell BK224.out 3).trans rfl
            have hfz16_0 := blk_frozen BK224.out 0
            have hfz16_1 := blk_frozen BK224.out 1
            have hfz16_2 := blk_frozen BK224.out 2
            have hfz16_3 := blk_frozen BK224.out 3
            go_wp2
            go_meet
            case rel => exact ⟨_, (true), (by first | rfl | (simp; done) | (simp [*]; done)), H', ⟨by have := HJ2.out; first | omega | exact Nat.le_refl _⟩, ⟨by (with_reducible repeat (first | refine blk_drewN ?_ _ | refine blk_drew ?_ | refine blk_alloc ?_ _)); exact BK224.out⟩, ⟨by repeat (first | (with_reducible first | exact HB.out | apply below_alloc | apply pw_below_drewN | apply below_drew1 | refine below_set ?_ GE224.out) | exact HB.out)⟩⟩
        case rest =>
          clear HC13
          try clear c1
          try clear p2
          try clear c7
          try clear c7b0
          try clear c7b1
          try clear c9
          try clear c9b0
          try clear c9b1
          try clear c12
          try clear c14
          try clear c14b0
          try clear c14b1
          try clear c16
          try clear hcz10_0
          try clear hcz10_1
          try clear hcz10_2
          try clear hcz10_3
          try clear hcz11_0
          try clear hcz11_1
          try clear hcz11_2
          try clear hcz11_3
          try clear hcz15_0
          try clear hcz15_1
          try clear hcz15_2
          try clear hcz15_3
          try clear hcz16_0
          try clear hcz16_1
          try clear hcz16_2
          try clear hcz16_3
          try clear hcz6_0
          try clear hcz6_1
          try clear hcz6_2
          try clear hcz6_3
          try clear hcz8_0
          try clear hcz8_1
          try clear hcz8_2
          try clear hcz8_3
          try clear hfz10_0
          try clear hfz10_1
          try clear hfz10_2
          try clear hfz10_3
          try clear hfz11_0
          try clear hfz11_1
          try clear hfz11_2
          try clear hfz11_3
          try clear hfz15_0
          try clear hfz15_1
          try clear hfz15_2
          try clear hfz15_3
          try clear hfz16_0
          try clear hfz16_1
          try clear hfz16_2
          try clear hfz16_3
          try clear hfz6_0
          try clear hfz6_1
          try clear hfz6_2
          try clear hfz6_3
          try clear hfz8_0
          try clear hfz8_1
          try clear hfz8_2
          try clear hfz8_3
          try clear p2
          obtain ⟨kq, x33_12, rfl, HA, HJ12, BK224, HB⟩ := hcut
          cases kq with
          | zero => exact absurd HA.out (by simp [spec_Sqrt.j1])
          | succ kj12 =>
            have H := HA.out
            clear HA
            simp only [spec_Sqrt.j1] at H
            by_cases c17 : x33_12 = true
            · subst c17
              have H1 : (some 9221120237041090560) = some r := by rw [if_pos rfl] at H; exact H
              clear H
              have H := H1
              clear H1
              obtain rfl := Option.some.inj H
              go_wp2
              go_ret
              exact ⟨by first | rfl | (simp; done) | (simp [errW_none, errW_some] <;> rfl) | (simp [*, errW_none, errW_some] <;> rfl) | (simp [bne, List.isEmpty_iff]; done) | (rw [Bool.eq_iff_iff]; simp), by repeat (first | (with_reducible first | exact HB.out | apply below_alloc | apply pw_below_drewN | apply below_drew1 | refine below_set ?_ GE224.out) | exact HB.out)⟩
            · replace c17 := Bool.eq_false_iff.mpr c17
              subst c17
              have H1 : ((spec_l05Up.f kj12 t220 t221 t222 t223).bind fun bt225 => (if (Int.tmod bt225.2.2.2 2) = 0 then (spec_Sqrt.j2 kj12 bt225.2.2.1 bt225.2.2.2) else (spec_Sqrt.j2 kj12 (IntKind.u64.wrap (bt225.2.2.1 * 2)) (wrap64 (bt225.2.2.2 - 1))))) = some r := by rw [if_neg (show ¬ (false = true) by decide)] at H; exact H
              clear H
              have H := H1
              clear H1
              replace H := Option.bind_eq_some_iff.mp H
              obtain ⟨⟨t225, t226, t227, t228⟩, A180, H⟩ := H
              replace H : (if (Int.tmod t228 2) = 0 then (spec_Sqrt.j2 kj12 t227 t228) else (spec_Sqrt.j2 kj12 (IntKind.u64.wrap (t227 * 2)) (wrap64 (t228 - 1)))) = some r := H
              have A18 := Aside0.mk A180
              clear A180
              have HC19 := Aside0.mk H
              clear H
              have hcz20_0 : wc.cell? ⟨gb224, 0, none⟩ = some (.int .i64 t220) := (blk_cell BK224.out 0).trans rfl
              have hcz20_1 : wc.cell? ⟨gb224, 1, none⟩ = some (.bool t221) := (blk_cell BK224.out 1).trans rfl
              have hcz20_2 : wc.cell? ⟨gb224, 2, none⟩ = some (.int .u64 t222) := (blk_cell BK224.out 2).trans rfl
              have hcz20_3 : wc.cell? ⟨gb224, 3, none⟩ = some (.int .i64 t223) := (blk_cell BK224.out 3).trans rfl
              have hfz20_0 := blk_frozen BK224.out 0
              have hfz20_1 := blk_frozen BK224.out 1
              have hfz20_2 := blk_frozen BK224.out 2
              have hfz20_3 := blk_frozen BK224.out 3
              go_upto_if 42 with (first | ((with_reducible refine gate_callee (f := 41) rfl ?_); refine goesL_ (some 35) rfl rfl Try.func41 (by kernel_rfl) rfl #[.agg #[.int .i64 t220, .bool t221, .int .u64 t222, .int .i64 t223]] rfl (by (try simp only [List.map_toArray, List.map_cons, List.map_nil]); first | done | rfl | (simp only [List.length_drop, List.length_take]; rfl)) ?_; (with_reducible refine (spec_l05Up.calls kj12 t220 t221 t222 t223 t225 t226 t227 t228 _ A18.out).mono ?_); rintro e w21 ⟨rfl, hb⟩; refine ⟨_, rfl, ?_⟩; have n0_ := Aside0.mk (blk_below (g := gb224) (o := .cells #[.int .i64 t220, .bool t221, .int .u64 t222, .int .i64 t223] 34 (0, 0)) (by (with_reducible repeat (first | refine blk_drewN ?_ _ | refine blk_drew ?_ | refine blk_alloc ?_ _)); exact BK224.out) hb); have n1_ := Aside0.mk (below_step (by repeat (first | (with_reducible first | exact HB.out | apply below_alloc | apply pw_below_drewN | apply below_drew1 | refine below_set ?_ GE224.out) | exact HB.out)) hb); clear BK224; clear HB; have BK224 := n0_; have HB := n1_; clear n0_ n1_; (try clear hb); (try clear hb2); (try clear hk); (try clear hi); have hcz22_0 : w21.cell? ⟨gb224, 0, none⟩ = some (.int .i64 t220) := (blk_cell BK224.out 0).trans rfl; have hcz22_1 : w21.cell? ⟨gb224, 1, none⟩ = some (.bool t221) := (blk_cell BK224.out 1).trans rfl; have hcz22_2 : w21.cell? ⟨gb224, 2, none⟩ = some (.int .u64 t222) := (blk_cell BK224.out 2).trans rfl; have hcz22_3 : w21.cell? ⟨gb224, 3, none⟩ = some (.int .i64 t223) := (blk_cell BK224.out 3).trans rfl; have hfz22_0 := blk_frozen BK224.out 0; have hfz22_1 := blk_frozen BK224.out 1; have hfz22_2 := blk_frozen BK224.out 2; have hfz22_3 := blk_frozen BK224.out 3))
              (try simp only [Act.put, List.setIfInBounds_toArray, List.set_cons_zero, List.set_cons_succ])
              go_cut [4, 5] (fun v4 v5 wc => ∃ (kq : Nat) (x4_18 : Int) (x5_18 : Int), v4 = .int .u64 x4_18 ∧ v5 = .int .i64 x5_18 ∧ Aside0 (spec_Sqrt.j2 kq x4_18 x5_18 = some r) ∧ Aside0 (kq ≤ kj12) ∧ Aside0 (wc.heap[gb224]? = some (.cells #[.int .i64 t225, .bool t226, .int .u64 t227, .int .i64 t228] 34 (0, 0))) ∧ Aside0 (Below w.heap.size w wc))
              case first =>
                have H := HC19.out
                clear HC19
                by_cases c23 : (Int.tmod t228 2) = 0
                · rw [if_pos c23] at H
                  have c23b0 : ((Int.tmod t228 2) == 0) = true := beq_iff_eq.mpr c23
                  have c23b1 : ((Int.tmod t228 2) != 0) = false := bne_eq_false_iff_eq.mpr c23
                  clear c23
                  (first | rw [c23b0] | (simp only [i64_w, i32_w]; rw [c23b0]) | skip)
                  have H' := Aside0.mk H
                  clear H
                  go_wp2
                  go_meet
                  case rel => exact ⟨_, (t227), (t228), (by first | rfl | (simp; done) | (simp [*]; done)), (by first | rfl | (simp; done) | (simp [*]; done)), H', ⟨by have := HJ2.out; have := HJ12.out; first | omega | exact Nat.le_refl _⟩, ⟨by (with_reducible repeat (first | refine blk_drewN ?_ _ | refine blk_drew ?_ | refine blk_alloc ?_ _)); refine blk_put (cs := #[.int .i64 t225, .bool t226, .int .u64 t227, .int .i64 t223]) ?_ 3 _ rfl; (with_reducible repeat (first | refine blk_drewN ?_ _ | refine blk_drew ?_ | refine blk_alloc ?_ _)); refine blk_put (cs := #[.int .i64 t225, .bool t226, .int .u64 t222, .int .i64 t223]) ?_ 2 _ rfl; (with_reducible repeat (first | refine blk_drewN ?_ _ | refine blk_drew ?_ | refine blk_alloc ?_ _)); refine blk_put (cs := #[.int .i64 t225, .bool t221, .int .u64 t222, .int .i64 t223]) ?_ 1 _ rfl; (with_reducible repeat (first | refine blk_drewN ?_ _ | refine blk_drew ?_ | refine blk_alloc ?_ _)); refine blk_put (cs := #[.int .i64 t220, .bool t221, .int .u64 t222, .int .i64 t223]) ?_ 0 _ rfl; (with_reducible repeat (first | refine blk_drewN ?_ _ | refine blk_drew ?_ | refine blk_alloc ?_ _)); exact BK224.out⟩, ⟨by repeat (first | (with_reducible first | exact HB.out | apply below_alloc | apply pw_below_drewN | apply below_drew1 | refine below_set ?_ GE224.out) | exact HB.out)⟩⟩
                · rw [if_neg c23] at H
                  have c23b0 : ((Int.tmod t228 2) == 0) = false := beq_eq_false_iff_ne.mpr c23
                  have c23b1 : ((Int.tmod t228 2) != 0) = true := bne_iff_ne.mpr c23
                  (first | rw [c23b0] | (simp only [i64_w, i32_w]; rw [c23b0]) | skip)
                  have H' := Aside0.mk H
                  clear H
                  go_wp2
                  go_meet
                  case rel => exact ⟨_, (IntKind.u64.wrap (t227 * 2)), (wrap64 (t228 - 1)), (by first | rfl | (simp; done) | (simp [*]; done)), (by first | rfl | (simp; done) | (simp [*]; done)), H', ⟨by have := HJ2.out; have := HJ12.out; first | omega | exact Nat.le_refl _⟩, ⟨by (with_reducible repeat (first | refine blk_drewN ?_ _ | refine blk_drew ?_ | refine blk_alloc ?_ _)); refine blk_put (cs := #[.int .i64 t225, .bool t226, .int .u64 t227, .int .i64 t223]) ?_ 3 _ rfl; (with_reducible repeat (first | refine blk_drewN ?_ _ | refine blk_drew ?_ | refine blk_alloc ?_ _)); refine blk_put (cs := #[.int .i64 t225, .bool t226, .int .u64 t222, .int .i64 t223]) ?_ 2 _ rfl; (with_reducible repeat (first | refine blk_drewN ?_ _ | refine blk_drew ?_ | refine blk_alloc ?_ _)); refine blk_put (cs := #[.int .i64 t225, .bool t221, .int .u64 t222, .int .i64 t223]) ?_ 1 _ rfl; (with_reducible repeat (first | refine blk_drewN ?_ _ | refine blk_drew ?_ | refine blk_alloc ?_ _)); refine blk_put (cs := #[.int .i64 t220, .bool t221, .int .u64 t222, .int .i64 t223]) ?_ 0 _ rfl; (with_reducible repeat (first | refine blk_drewN ?_ _ | refine blk_drew ?_ | refine blk_alloc ?_ _)); exact BK224.out⟩, ⟨by repeat (first | (with_reducible first | exact HB.out | apply below_alloc | apply pw_below_drewN | apply below_drew1 | refine below_set ?_ GE224.out) | exact HB.out)⟩⟩
              case rest =>
                clear HC19
                try clear c1
                try clear c2
                try clear p2
                try clear c4
                try clear p6
                try clear c7
                try clear c7b0
                try clear c7b1
                try clear c9
                try clear c9b0
                try clear c9b1
                try clear c12
                try clear c14
                try clear c14b0
                try clear c14b1
                try clear c16
                try clear c17
                try clear c23
                try clear c23b0
                try clear c23b1
                try clear hcz10_0
                try clear hcz10_1
                try clear hcz10_2
                try clear hcz10_3
                try clear hcz11_0
                try clear hcz11_1
                try clear hcz11_2
                try clear hcz11_3
                try clear hcz15_0
                try clear hcz15_1
                try clear hcz15_2
                try clear hcz15_3
                try clear hcz16_0
                try clear hcz16_1
                try clear hcz16_2
                try clear hcz16_3
                try clear hcz20_0
                try clear hcz20_1
                try clear hcz20_2
                try clear hcz20_3
                try clear hcz22_0
                try clear hcz22_1
                try clear hcz22_2
                try clear hcz22_3
                try clear hcz6_0
                try clear hcz6_1
                try clear hcz6_2
                try clear hcz6_3
                try clear hcz8_0
                try clear hcz8_1
                try clear hcz8_2
                try clear hcz8_3
                try clear hfz10_0
                try clear hfz10_1
                try clear hfz10_2
                try clear hfz10_3
                try clear hfz11_0
                try clear hfz11_1
                try clear hfz11_2
                try clear hfz11_3
                try clear hfz15_0
                try clear hfz15_1
                try clear hfz15_2
                try clear hfz15_3
                try clear hfz16_0
                try clear hfz16_1
                try clear hfz16_2
                try clear hfz16_3
                try clear hfz20_0
                try clear hfz20_1
                try clear hfz20_2
                try clear hfz20_3
                try clear hfz22_0
                try clear hfz22_1
                try clear hfz22_2
                try clear hfz22_3
                try clear hfz6_0
                try clear hfz6_1
                try clear hfz6_2
                try clear hfz6_3
                try clear hfz8_0
                try clear hfz8_1
                try clear hfz8_2
                try clear hfz8_3
                try clear p2
                obtain ⟨kq, x4_18, x5_18, rfl, rfl, HA, HJ18, BK224, HB⟩ := hcut
                cases kq with
                | zero => exact absurd HA.out (by simp [spec_Sqrt.j2])
                | succ kj18 =>
                  have H := HA.out
                  clear HA
                  simp only [spec_Sqrt.j2] at H
                  have H' := Aside0.mk H
                  clear H
                  go_wp2
                  go_loopg [6, 7, 8] kj18 (fun kq v6 v7 v8 w' => ∃ (x6_4 : Int) (x7_4 : Int) (x8_4 : Int), v6 = .int .u64 x6_4 ∧ v7 = .int .u64 x7_4 ∧ v8 = .int .i64 x8_4 ∧ Aside0 (spec_Sqrt.l0 kq x4_18 x5_18 x6_4 x7_4 x8_4 = some r) ∧ Aside0 (kq ≤ kj18) ∧ Aside0 (w'.heap[gb224]? = some (.cells #[.int .i64 t225, .bool t226, .int .u64 t227, .int .i64 t228] 34 (0, 0))) ∧ Aside0 (Below w.heap.size w w'))
                  case atStart => exact ⟨(0), (0), (27), (by first | rfl | (simp; done) | (simp [*]; done)), (by first | rfl | (simp; done) | (simp [*]; done)), (by first | rfl | (simp; done) | (simp [*]; done)), H', ⟨Nat.le_refl _⟩, ⟨by (with_reducible repeat (first | refine blk_drewN ?_ _ | refine blk_drew ?_ | refine blk_alloc ?_ _)); exact BK224.out⟩, ⟨by repeat (first | (with_reducible first | exact HB.out | apply below_alloc | apply pw_below_drewN | apply below_drew1 | refine below_set ?_ GE224.out) | exact HB.out)⟩⟩
                  case round =>
                    clear H'
                    try clear c1
                    try clear c2
                    try clear p2
                    try clear c4
                    try clear p6
                    try clear c7
                    try clear c7b0
                    try clear c7b1
                    try clear c9
                    try clear c9b0
                    try clear c9b1
                    try clear c12
                    try clear c14
                    try clear c14b0
                    try clear c14b1
                    try clear c16
                    try clear c17
                    try clear c23
                    try clear c23b0
                    try clear c23b1
                    try clear hcz10_0
                    try clear hcz10_1
                    try clear hcz10_2
                    try clear hcz10_3
                    try clear hcz11_0
                    try clear hcz11_1
                    try clear hcz11_2
                    try clear hcz11_3
                    try clear hcz15_0
                    try clear hcz15_1
                    try clear hcz15_2
                    try clear hcz15_3
                    try clear hcz16_0
                    try clear hcz16_1
                    try clear hcz16_2
                    try clear hcz16_3
                    try clear hcz20_0
                    try clear hcz20_1
                    try clear hcz20_2
                    try clear hcz20_3
                    try clear hcz22_0
                    try clear hcz22_1
                    try clear hcz22_2
                    try clear hcz22_3
                    try clear hcz6_0
                    try clear hcz6_1
                    try clear hcz6_2
                    try clear hcz6_3
                    try clear hcz8_0
                    try clear hcz8_1
                    try clear hcz8_2
                    try clear hcz8_3
                    try clear hfz10_0
                    try clear hfz10_1
                    try clear hfz10_2
                    try clear hfz10_3
                    try clear hfz11_0
                    try clear hfz11_1
                    try clear hfz11_2
                    try clear hfz11_3
                    try clear hfz15_0
                    try clear hfz15_1
                    try clear hfz15_2
                    try clear hfz15_3
                    try clear hfz16_0
                    try clear hfz16_1
                    try clear hfz16_2
                    try clear hfz16_3
                    try clear hfz20_0
                    try clear hfz20_1
                    try clear hfz20_2
                    try clear hfz20_3
                    try clear hfz22_0
                    try clear hfz22_1
                    try clear hfz22_2
                    try clear hfz22_3
                    try clear hfz6_0
                    try clear hfz6_1
                    try clear hfz6_2
                    try clear hfz6_3
                    try clear hfz8_0
                    try clear hfz8_1
                    try clear hfz8_2
                    try clear hfz8_3
                    try clear p2
                    try clear p6
                    obtain ⟨x6_4, x7_4, x8_4, rfl, rfl, rfl, HA, HK4, BK224, HB⟩ := hrel
                    cases gk with
                    | zero => exact absurd HA.out (by simp [spec_Sqrt.l0])
                    | succ k4 =>
                      have H := HA.out
                      clear HA
                      simp only [spec_Sqrt.l0] at H
                      by_cases c24 : x8_4 ≥ (-31)
                      · rw [if_pos c24] at H
                        have c24b0 : decide ((-31) ≤ x8_4) = true := decide_eq_true c24
                        clear c24
                        by_cases c25 : x8_4 ≥ 0
                        · rw [if_pos c25] at H
                          have c25b0 : decide (0 ≤ x8_4) = true := decide_eq_true c25
                          clear c25
                          replace H := Option.bind_eq_some_iff.mp H
                          obtain ⟨t230, A260, H⟩ := H
                          replace H : (if t230 = 0 then (none) else (if (IntKind.u64.wrap ((IntKind.u64.wrap (x7_4 * 4)) + (Int.tmod (IntKind.u64.wrap (Int.tdiv x4_18 t230)) 4))) ≥ (IntKind.u64.wrap ((IntKind.u64.wrap (x6_4 * 4)) + 1)) then (spec_Sqrt.l0 k4 x4_18 x5_18 (IntKind.u64.wrap ((IntKind.u64.wrap (x6_4 * 2)) + 1)) (IntKind.u64.wrap ((IntKind.u64.wrap ((IntKind.u64.wrap (x7_4 * 4)) + (Int.tmod (IntKind.u64.wrap (Int.tdiv x4_18 t230)) 4))) - (IntKind.u64.wrap ((IntKind.u64.wrap (x6_4 * 4)) + 1)))) (wrap64 (x8_4 - 1))) else (spec_Sqrt.l0 k4 x4_18 x5_18 (IntKind.u64.wrap (x6_4 * 2)) (IntKind.u64.wrap ((IntKind.u64.wrap (x7_4 * 4)) + (Int.tmod (IntKind.u64.wrap (Int.tdiv x4_18 t230)) 4))) (wrap64 (x8_4 - 1))))) = some r := H
                          have A26 := Aside0.mk A260
                          clear A260
                          by_cases c27 : t230 = 0
                          · rw [if_pos c27] at H
                            exact absurd H (by simp)
                          · rw [if_neg c27] at H
                            have c27b0 : (t230 == 0) = false := beq_eq_false_iff_ne.mpr c27
                            have c27b1 : (t230 != 0) = true := bne_iff_ne.mpr c27
                            by_cases c28 : (IntKind.u64.wrap ((IntKind.u64.wrap (x7_4 * 4)) + (Int.tmod (IntKind.u64.wrap (Int.tdiv x4_18 t230)) 4))) ≥ (IntKind.u64.wrap ((IntKind.u64.wrap (x6_4 * 4)) + 1))
                            · rw [if_pos c28] at H
                              have c28b0 : decide ((IntKind.u64.wrap ((IntKind.u64.wrap (x6_4 * 4)) + 1)) ≤ (IntKind.u64.wrap ((IntKind.u64.wrap (x7_4 * 4)) + (Int.tmod (IntKind.u64.wrap (Int.tdiv x4_18 t230)) 4)))) = true := decide_eq_true c28
                              clear c28
                              have H' := Aside0.mk H
                              clear H
                              go_wp2_with (first | ((with_reducible refine gate_callee (f := 37) rfl ?_); refine goesL_ (some 56) rfl rfl Try.func37 (by kernel_rfl) rfl #[.int .i64 (wrap64 (2 * x8_4))] rfl (by (try simp only [List.map_toArray, List.map_cons, List.map_nil]); first | done | rfl | (simp only [List.length_drop, List.length_take]; rfl)) ?_; (with_reducible refine (spec_l03Pow.calls k4 (wrap64 (2 * x8_4)) t230 _ A26.out).mono ?_); rintro e w' ⟨rfl, ⟨nd, rfl⟩⟩; refine ⟨_, rfl, ?_⟩))
                              go_roundg k4
                              case measure => have := HJ2.out; have := HJ12.out; have := HJ18.out; have := HK4.out; omega
                              case rel => exact ⟨(IntKind.u64.wrap ((IntKind.u64.wrap (x6_4 * 2)) + 1)), (IntKind.u64.wrap ((IntKind.u64.wrap ((IntKind.u64.wrap (x7_4 * 4)) + (Int.tmod (IntKind.u64.wrap (Int.tdiv x4_18 t230)) 4))) - (IntKind.u64.wrap ((IntKind.u64.wrap (x6_4 * 4)) + 1)))), (wrap64 (x8_4 - 1)), (by first | rfl | (simp; done) | (simp [*]; done)), (by first | rfl | (simp; done) | (simp [*]; done)), (by first | rfl | (simp; done) | (simp [*]; done)), H', ⟨by have := HJ2.out; have := HJ12.out; have := HJ18.out; have := HK4.out; omega⟩, ⟨by (with_reducible repeat (first | refine blk_drewN ?_ _ | refine blk_drew ?_ | refine blk_alloc ?_ _)); exact BK224.out⟩, ⟨by repeat (first | (with_reducible first | exact HB.out | apply below_alloc | apply pw_below_drewN | apply below_drew1 | refine below_set ?_ GE224.out) | exact HB.out)⟩⟩
                            · rw [if_neg c28] at H
                              have c28b0 : decide ((IntKind.u64.wrap ((IntKind.u64.wrap (x6_4 * 4)) + 1)) ≤ (IntKind.u64.wrap ((IntKind.u64.wrap (x7_4 * 4)) + (Int.tmod (IntKind.u64.wrap (Int.tdiv x4_18 t230)) 4)))) = false := decide_eq_false c28
                              clear c28
                              have H' := Aside0.mk H
                              clear H
                              go_wp2_with (first | ((with_reducible refine gate_callee (f := 37) rfl ?_); refine goesL_ (some 56) rfl rfl Try.func37 (by kernel_rfl) rfl #[.int .i64 (wrap64 (2 * x8_4))] rfl (by (try simp only [List.map_toArray, List.map_cons, List.map_nil]); first | done | rfl | (simp only [List.length_drop, List.length_take]; rfl)) ?_; (with_reducible refine (spec_l03Pow.calls k4 (wrap64 (2 * x8_4)) t230 _ A26.out).mono ?_); rintro e w' ⟨rfl, ⟨nd, rfl⟩⟩; refine ⟨_, rfl, ?_⟩))
                              go_roundg k4
                              case measure => have := HJ2.out; have := HJ12.out; have := HJ18.out; have := HK4.out; omega
                              case rel => exact ⟨(IntKind.u64.wrap (x6_4 * 2)), (IntKind.u64.wrap ((IntKind.u64.wrap (x7_4 * 4)) + (Int.tmod (IntKind.u64.wrap (Int.tdiv x4_18 t230)) 4))), (wrap64 (x8_4 - 1)), (by first | rfl | (simp; done) | (simp [*]; done)), (by first | rfl | (simp; done) | (simp [*]; done)), (by first | rfl | (simp; done) | (simp [*]; done)), H', ⟨by have := HJ2.out; have := HJ12.out; have := HJ18.out; have := HK4.out; omega⟩, ⟨by (with_reducible repeat (first | refine blk_drewN ?_ _ | refine blk_drew ?_ | refine blk_alloc ?_ _)); exact BK224.out⟩, ⟨by repeat (first | (with_reducible first | exact HB.out | apply below_alloc | apply pw_below_drewN | apply below_drew1 | refine below_set ?_ GE224.out) | exact HB.out)⟩⟩
                        · rw [if_neg c25] at H
                          have c25b0 : decide (0 ≤ x8_4) = false := decide_eq_false c25
                          clear c25
                          by_cases c29 : (IntKind.u64.wrap ((IntKind.u64.wrap (x7_4 * 4)))) ≥ (IntKind.u64.wrap ((IntKind.u64.wrap (x6_4 * 4)) + 1))
                          · rw [if_pos c29] at H
                            have c29b0 : decide ((IntKind.u64.wrap ((IntKind.u64.wrap (x6_4 * 4)) + 1)) ≤ (IntKind.u64.wrap ((IntKind.u64.wrap (x7_4 * 4))))) = true := decide_eq_true c29
                            clear c29
                            have H' := Aside0.mk H
                            clear H
                            go_wp2
                            go_roundg k4
                            case measure => have := HJ2.out; have := HJ12.out; have := HJ18.out; have := HK4.out; omega
                            case rel => exact ⟨(IntKind.u64.wrap ((IntKind.u64.wrap (x6_4 * 2)) + 1)), (IntKind.u64.wrap ((IntKind.u64.wrap ((IntKind.u64.wrap (x7_4 * 4)))) - (IntKind.u64.wrap ((IntKind.u64.wrap (x6_4 * 4)) + 1)))), (wrap64 (x8_4 - 1)), (by first | rfl | (simp; done) | (simp [*]; done)), (by first | rfl | (simp; done) | (simp [*]; done)), (by first | rfl | (simp; done) | (simp [*]; done)), H', ⟨by have := HJ2.out; have := HJ12.out; have := HJ18.out; have := HK4.out; omega⟩, ⟨by (with_reducible repeat (first | refine blk_drewN ?_ _ | refine blk_drew ?_ | refine blk_alloc ?_ _)); exact BK224.out⟩, ⟨by repeat (first | (with_reducible first | exact HB.out | apply below_alloc | apply pw_below_drewN | apply below_drew1 | refine below_set ?_ GE224.out) | exact HB.out)⟩⟩
                          · rw [if_neg c29] at H
                            have c29b0 : decide ((IntKind.u64.wrap ((IntKind.u64.wrap (x6_4 * 4)) + 1)) ≤ (IntKind.u64.wrap ((IntKind.u64.wrap (x7_4 * 4))))) = false := decide_eq_false c29
                            clear c29
                            have H' := Aside0.mk H
                            clear H
                            go_wp2
                            go_roundg k4
                            case measure => have := HJ2.out; have := HJ12.out; have := HJ18.out; have := HK4.out; omega
                            case rel => exact ⟨(IntKind.u64.wrap (x6_4 * 2)), (IntKind.u64.wrap ((IntKind.u64.wrap (x7_4 * 4)))), (wrap64 (x8_4 - 1)), (by first | rfl | (simp; done) | (simp [*]; done)), (by first | rfl | (simp; done) | (simp [*]; done)), (by first | rfl | (simp; done) | (simp [*]; done)), H', ⟨by have := HJ2.out; have := HJ12.out; have := HJ18.out; have := HK4.out; omega⟩, ⟨by (with_reducible repeat (first | refine blk_drewN ?_ _ | refine blk_drew ?_ | refine blk_alloc ?_ _)); exact BK224.out⟩, ⟨by repeat (first | (with_reducible first | exact HB.out | apply below_alloc | apply pw_below_drewN | apply below_drew1 | refine below_set ?_ GE224.out) | exact HB.out)⟩⟩
                      · rw [if_neg c24] at H
                        have c24b0 : decide ((-31) ≤ x8_4) = false := decide_eq_false c24
                        clear c24
                        replace H := Option.bind_eq_some_iff.mp H
                        obtain ⟨t229, A300, H⟩ := H
                        replace H : (some t229) = some r := H
                        have A30 := Aside0.mk A300
                        clear A300
                        obtain rfl := Option.some.inj H
                        go_wp2_with (first | ((with_reducible refine gate_callee (f := 42) rfl ?_); refine goesL_ (some 82) rfl rfl Try.func42 (by kernel_rfl) rfl #[.bool false, .int .u64 x6_4, .int .i64 (wrap64 ((wrap64 (Int.tdiv x5_18 2)) - 31)), .bool (decide (x7_4 > 0))] rfl (by (try simp only [List.map_toArray, List.map_cons, List.map_nil]); first | done | rfl | (simp only [List.length_drop, List.length_take]; rfl)) ?_; (with_reducible refine (spec_RoundTo.calls k4 false x6_4 (wrap64 ((wrap64 (Int.tdiv x5_18 2)) - 31)) (decide (x7_4 > 0)) t229 _ A30.out).mono ?_); rintro e w' ⟨rfl, ⟨nd, rfl⟩⟩; refine ⟨_, rfl, ?_⟩))
                        go_ret
                        exact ⟨by first | rfl | (simp; done) | (simp [errW_none, errW_some] <;> rfl) | (simp [*, errW_none, errW_some] <;> rfl) | (simp [bne, List.isEmpty_iff]; done) | (rw [Bool.eq_iff_iff]; simp), by repeat (first | (with_reducible first | exact HB.out | apply below_alloc | apply pw_below_drewN | apply below_drew1 | refine below_set ?_ GE224.out) | exact HB.out)⟩
end Go.Proofs.Ytokhgodcamhibaa.QFnRoots
end
section
namespace Go.Proofs.Ytokhgodcamhibaa.Root
open Go.RowKit Go.Proofs.YtokhgodcamhibaaW.PrintWords Go.Proofs.YtokhgodcamhibaaW.PrintMore Go.Proofs.Ytokhgodcamhibaa.Fl Go.Proofs.Ytokhgodcamhibaa.Num Go.Proofs.Ytokhgodcamhibaa.QFnExactDoBinary Go.Proofs.Ytokhgodcamhibaa.QFnRoots Go.Proofs.Ytokhgodcamhibaa.Rnd Ieee
set_option linter.unusedVariables false
set_option linter.unusedSimpArgs false
theorem u {x : Int} {n : Nat} (h : x = (n : Int)) (hn : n < 18446744073709551616) : IntKind.u64.wrap x = (n : Int) := by rw [u64_id (by omega) (by omega), h]
theorem pow_all : ∀ j : Fin 28, spec_l03Pow.f 100 (2 * ((j.val : Nat) : Int)) = some ((4 ^ j.val : Nat) : Int) := by decide +kernel
theorem pow_four {k : Nat} (hk : 100 ≤ k) {j : Nat} (h : j < 28) : spec_l03Pow.f k (2 * (j : Int)) = some ((4 ^ j : Nat) : Int) := pow_k hk (pow_all ⟨j, h⟩)
theorem tdiv_nat (a b : Nat) : Int.tdiv (a : Int) (b : Int) = ((a / b : Nat) : Int) := by
  rw [Int.tdiv_eq_ediv_of_nonneg (by omega)]
  exact (Int.natCast_ediv a b).symm
/-- The digit that is taken. -/
theorem digit_hi (m j : Nat) : m * 2 ^ 62 / 4 ^ (j + 31) % 4 = m / 4 ^ j % 4 := by
  rw [show (2 : Nat) ^ 62 = 4 ^ 31 from by decide, Nat.pow_add, Nat.mul_div_mul_right _ _ (by decide)]
theorem digit_lo (m : Nat) {n : Nat} (h : n < 31) : m * 2 ^ 62 / 4 ^ n % 4 = 0 := by
  obtain ⟨d, hd⟩ : ∃ d, 31 = n + (d + 1) := ⟨30 - n, by omega⟩
  rw [show (2 : Nat) ^ 62 = 4 ^ 31 from by decide, hd, Nat.pow_add, Nat.mul_comm (4 ^ n), ← Nat.mul_assoc, Nat.mul_div_cancel _ (Nat.pow_pos (by decide)), Nat.pow_succ, ← Nat.mul_assoc, Nat.mul_mod_left]
theorem root_lt {root left D M : Nat} (h : root * root + left = D) (hD : D ≤ M) (hM : M < 2 ^ 116) : root < 288230376151711744 := by
  rcases Nat.lt_or_ge root 288230376151711744 with c | c
  · exact c
  · have := Nat.mul_le_mul c c
    have e : (2 : Nat) ^ 116 = 288230376151711744 * 288230376151711744 := by decide
    omega
theorem round_up {root left D two : Nat} (h : root * root + left = D / 4) (ht : two = D % 4) (hl : left ≤ 2 * root) (c : root * 4 + 1 ≤ left * 4 + two) :
    (2 * root + 1) * (2 * root + 1) + (left * 4 + two - (root * 4 + 1)) = D ∧ left * 4 + two - (root * 4 + 1) ≤ 2 * (2 * root + 1) := by
  have e : (2 * root + 1) * (2 * root + 1) = 4 * (root * root) + 4 * root + 1 := by
    rw [Nat.mul_add, Nat.add_mul, Nat.mul_one, Nat.one_mul]
    have : 2 * root * (2 * root) = 4 * (root * root) := by rw [Nat.mul_mul_mul_comm]
    omega
  rw [e]
  generalize root * root = q at h
  omega
theorem round_same {root left D two : Nat} (h : root * root + left = D / 4) (ht : two = D % 4) (hl : left ≤ 2 * root) (c : ¬ root * 4 + 1 ≤ left * 4 + two) :
    (2 * root) * (2 * root) + (left * 4 + two) = D ∧ left * 4 + two ≤ 2 * (2 * root) := by
  have e : 2 * root * (2 * root) = 4 * (root * root) := by rw [Nat.mul_mul_mul_comm]
  rw [e]
  generalize root * root = q at h
  omega
theorem sqrt_l0 (m : Nat) (hm : m < 18014398509481984) (e : Int) (he : -4000 ≤ e ∧ e ≤ 4000) : ∀ (n k root left : Nat) (z : Int), z = (n : Int) - 32 → n ≤ 59 → n + 9010 ≤ k → root * root + left = m * 2 ^ 62 / 4 ^ n → left ≤ 2 * root →
    ∃ r l, r * r + l = m * 2 ^ 62 ∧ l ≤ 2 * r ∧ spec_Sqrt.l0 k (m : Int) e (root : Int) (left : Int) z = some ((rnd false r (Int.tdiv e 2 - 31) (decide (0 < l)) : Nat) : Int) := by
  have hM : m * 2 ^ 62 < 2 ^ 116 := by
    rw [show (2 : Nat) ^ 116 = 18014398509481984 * 2 ^ 62 from by decide]
    exact Nat.mul_lt_mul_of_pos_right hm (by decide)
  intro n
  induction n with
  | zero =>
    intro k root left z hz hn hk h hl
    obtain ⟨k, rfl⟩ : ∃ q, k = q + 1 := ⟨k - 1, by omega⟩
    rw [Nat.pow_zero, Nat.div_one] at h
    have hr := root_lt h (Nat.le_refl _) hM
    refine ⟨root, left, h, hl, ?_⟩
    simp only [spec_Sqrt.l0]
    have ht : -4000 ≤ Int.tdiv e 2 ∧ Int.tdiv e 2 ≤ 4000 := by
      rcases Int.le_total 0 e with c | c
      · rw [Int.tdiv_eq_ediv_of_nonneg c]; omega
      · have := Int.neg_tdiv e 2
        rw [Int.tdiv_eq_ediv_of_nonneg (by omega)] at this
        omega
    rw [if_neg (by omega), wrap64_id (n := Int.tdiv e 2) (by omega) (by omega), wrap64_id (n := Int.tdiv e 2 - 31) (by omega) (by omega), round_ok (by omega) false root _ _ (by omega) (by omega) (by omega), Option.bind_some]
    rw [show decide ((left : Int) > 0) = decide (0 < left) from by simp]
  | succ n ih =>
    intro k root left z hz hn hk h hl
    obtain ⟨k, rfl⟩ : ∃ q, k = q + 1 := ⟨k - 1, by omega⟩
    obtain ⟨D, hD⟩ : ∃ D, m * 2 ^ 62 / 4 ^ n = D := ⟨_, rfl⟩
    have hDM : D ≤ m * 2 ^ 62 := by rw [← hD]; exact Nat.div_le_self _ _
    have h4 : m * 2 ^ 62 / 4 ^ (n + 1) = D / 4 := by rw [Nat.pow_succ (n := 4) (m := n), ← Nat.div_div_eq_div_mul, hD]
    rw [h4] at h
    have hr := root_lt h (show D / 4 ≤ m * 2 ^ 62 by omega) hM
    have hw : wrap64 (z - 1) = z - 1 := wrap64_id (by omega) (by omega)
    have key : ∀ two : Nat, two = D % 4 →
        ∃ r l, r * r + l = m * 2 ^ 62 ∧ l ≤ 2 * r ∧ (if ((left * 4 + two : Nat) : Int) ≥ ((root * 4 + 1 : Nat) : Int) then spec_Sqrt.l0 k (m : Int) e ((2 * root + 1 : Nat) : Int) (((left * 4 + two - (root * 4 + 1) : Nat) : Int)) (z - 1) else spec_Sqrt.l0 k (m : Int) e ((2 * root : Nat) : Int) ((left * 4 + two : Nat) : Int) (z - 1)) = some ((rnd false r (Int.tdiv e 2 - 31) (decide (0 < l)) : Nat) : Int) := by
      intro two ht
      by_cases c : root * 4 + 1 ≤ left * 4 + two
      · rw [if_pos (by omega)]
        obtain ⟨q1, q2⟩ := round_up h ht hl c
        exact ih k _ _ (z - 1) (by omega) (by omega) (by omega) (by rw [hD]; exact q1) q2
      · rw [if_neg (by omega)]
        obtain ⟨q1, q2⟩ := round_same h ht hl c
        exact ih k _ _ (z - 1) (by omega) (by omega) (by omega) (by rw [hD]; exact q1) q2
    simp only [spec_Sqrt.l0]
    rw [if_pos (by omega), hw]
    have e1 : IntKind.u64.wrap (IntKind.u64.wrap ((root : Int) * 4) + 1) = ((root * 4 + 1 : Nat) : Int) := u (by rw [u (n := root * 4) (by omega) (by omega)]; omega) (by omega)
    have e2 : IntKind.u64.wrap ((root : Int) * 2) = ((2 * root : Nat) : Int) := u (by omega) (by omega)
    have e3 : IntKind.u64.wrap (((2 * root : Nat) : Int) + 1) = ((2 * root + 1 : Nat) : Int) := u (by omega) (by omega)
    have e4 : IntKind.u64.wrap ((left : Int) * 4) = ((left * 4 : Nat) : Int) := u (by omega) (by omega)
    rw [e1, e2, e3, e4]
    by_cases c : z ≥ 0
    · rw [if_pos c]
      obtain ⟨j, hj⟩ : ∃ j : Nat, n = j + 31 := ⟨n - 31, by omega⟩
      have hzj : z = (j : Int) := by omega
      have hp := pow_four (k := k) (by omega) (show j < 28 by omega)
      rw [hzj, wrap64_id (n := 2 * (j : Int)) (by omega) (by omega), hp, Option.bind_some]
      have h4p : 0 < 4 ^ j := Nat.pow_pos (by decide)
      rw [if_neg (by omega), tdiv_nat, u (n := m / 4 ^ j) rfl (Nat.lt_of_le_of_lt (Nat.div_le_self _ _) (by omega))]
      have ht : m / 4 ^ j % 4 = D % 4 := by rw [← hD, hj, digit_hi]
      have e5 : Int.tmod ((m / 4 ^ j : Nat) : Int) 4 = ((m / 4 ^ j % 4 : Nat) : Int) := by
        rw [tmod_pos (Int.natCast_nonneg _)]
        exact (Int.natCast_emod _ 4).symm
      rw [e5]
      obtain ⟨two, h2⟩ : ∃ two, m / 4 ^ j % 4 = two := ⟨_, rfl⟩
      rw [h2] at ht ⊢
      have h2b : two < 4 := by omega
      clear h2 hp h4p e5
      have e6 : IntKind.u64.wrap (((left * 4 : Nat) : Int) + (two : Int)) = ((left * 4 + two : Nat) : Int) := u (by omega) (by omega)
      rw [e6]
      obtain ⟨r, l, q1, q2, q3⟩ := key two ht
      refine ⟨r, l, q1, q2, ?_⟩
      rw [← q3, ← hzj]
      by_cases c2 : root * 4 + 1 ≤ left * 4 + two
      · rw [if_pos (by omega), if_pos (by omega), u (n := left * 4 + two - (root * 4 + 1)) (by omega) (by omega)]
      · rw [if_neg (by omega), if_neg (by omega)]
    · rw [if_neg c]
      have ht : 0 = D % 4 := by rw [← hD, digit_lo m (by omega)]
      have e6 : IntKind.u64.wrap ((left * 4 : Nat) : Int) = ((left * 4 + 0 : Nat) : Int) := u (by omega) (by omega)
      rw [e6]
      obtain ⟨r, l, q1, q2, q3⟩ := key 0 ht
      refine ⟨r, l, q1, q2, ?_⟩
      rw [← q3]
      by_cases c2 : root * 4 + 1 ≤ left * 4 + 0
      · rw [if_pos (by omega), if_pos (by omega), u (n := left * 4 + 0 - (root * 4 + 1)) (by omega) (by omega)]
      · rw [if_neg (by omega), if_neg (by omega)]
theorem read_inf {X : Nat} {s : Bool} (hX : X < 18446744073709551616) (h : double.read X = .infinity s) : X = double.word s 9218868437227405312 := by
  rw [read_eq] at h
  by_cases a : ex X < 2047
  · rw [if_pos a] at h; cases h
  · rw [if_neg a] at h
    by_cases b : fr X = 0
    · rw [if_pos b] at h
      injection h with h1
      have h2 := ex_lt X
      unfold ex fr at *
      rw [word_eq, ← h1]
      unfold sg
      by_cases c : X / 9223372036854775808 % 2 = 1
      · rw [c, if_pos (show ((1 : Nat) == 1) = true from rfl)]; omega
      · rw [show X / 9223372036854775808 % 2 = 0 by omega, if_neg (show ¬ ((0 : Nat) == 1) = true by decide)]; omega
    · rw [if_neg b] at h; cases h
theorem read_zero {X : Nat} {s : Bool} {i : Int} (hX : X < 18446744073709551616) (h : double.read X = .number s 0 i) : X = double.word s 0 := by
  obtain ⟨h1, h2, h3, h4⟩ := read_fin h
  have e := nearest_self hX h1
  rw [h3, nearest_zero, h2] at e
  exact e.symm
theorem sqrt_fin_ok (m : Nat) (i : Int) (h0 : 0 < m) (h1 : m < 9007199254740992) (h2 : -1074 ≤ i) (h3 : i ≤ 971) {k : Nat} (hk : 9300 ≤ k) :
    spec_Sqrt.j1 k false 4 false (m : Int) i = some (opW ((Datum.root 54 (.number false m i)).map double.write)) := by
  obtain ⟨k, rfl⟩ : ∃ q, k = q + 2 := ⟨k - 2, by omega⟩
  obtain ⟨a, ha, p1, p2, p3⟩ := up_ok 4 false 52 (k + 1) m i (by omega) h1 (by omega) (by omega) (by omega)
  have fin : ∀ (x c : Nat) (e : Int), m * 2 ^ a * 2 ^ c = x → c ≤ 1 → e = i - a - c → e % 2 = 0 → spec_Sqrt.l0 k (x : Int) e 0 0 27 = some (opW ((Datum.root 54 (.number false m i)).map double.write)) := by
    intro x c e hx hc he h2e
    have hc2 : x = m * 2 ^ a ∨ x = 2 * (m * 2 ^ a) := by
      rcases Nat.lt_or_ge c 1 with c0 | c1
      · rw [show c = 0 by omega, Nat.pow_zero, Nat.mul_one] at hx; exact .inl hx.symm
      · rw [show c = 1 by omega, Nat.pow_one] at hx; exact .inr (by omega)
    have hx1 : 4503599627370496 ≤ x ∧ x < 18014398509481984 := by omega
    obtain ⟨r, l, q1, q2, q3⟩ := sqrt_l0 x hx1.2 e (by omega) 59 k 0 0 27 (by omega) (by omega) (by omega) (by
      rw [Nat.zero_mul, Nat.zero_add]
      symm
      apply Nat.div_eq_of_lt
      rw [show (4 : Nat) ^ 59 = 2 ^ 56 * 2 ^ 62 from by decide]
      exact Nat.mul_lt_mul_of_pos_right (by omega) (by decide)) (by omega)
    have q3' : spec_Sqrt.l0 k (x : Int) e 0 0 27 = some ((rnd false r (Int.tdiv e 2 - 31) (decide (0 < l)) : Nat) : Int) := q3
    rw [q3']
    have hb : 72057594037927936 ≤ r := by
      rcases Nat.lt_or_ge r 72057594037927936 with g | g
      · exfalso
        have e1 := Nat.mul_le_mul (Nat.le_of_lt g) (Nat.le_of_lt g)
        have e2 : 4503599627370496 * 2 ^ 62 ≤ x * 2 ^ 62 := Nat.mul_le_mul_right _ hx1.1
        rw [← q1, show (4503599627370496 : Nat) * 2 ^ 62 = 20769187434139310514121985316880384 from by decide] at e2
        omega
      · exact g
    have ht : 2 * Int.tdiv e 2 = e := by
      have := Int.tmod_add_mul_tdiv e 2
      have hm : Int.tmod e 2 = 0 := by
        have := Int.tmod_eq_emod (a := e) (b := 2)
        rcases Int.le_total 0 e with g | g
        · rw [Int.tmod_eq_emod_of_nonneg g]; exact h2e
        · have w := Int.neg_tmod (a := e) (b := 2)
          rw [Int.tmod_eq_emod_of_nonneg (by omega)] at w
          omega
      omega
    have key := sqrt_fin m (a + c + 62) i (Int.tdiv e 2 - 31) r l h0 h1 (by rw [q1, ← hx, Nat.pow_add, Nat.pow_add, Nat.mul_assoc, Nat.mul_assoc, Nat.mul_assoc]) q2 (by omega) hb
    rw [← key]
    rfl
  simp only [spec_Sqrt.j1]
  unfold spec_l05Up.f
  rw [if_neg (by decide), p3, Option.bind_some]
  obtain ⟨x, hx⟩ : ∃ x, m * 2 ^ a = x := ⟨_, rfl⟩
  rw [hx] at fin p1 p2 ⊢
  by_cases c : Int.tmod (i - a) 2 = 0
  · rw [if_pos c]
    simp only [spec_Sqrt.j2]
    refine fin x 0 (i - a) (by rw [Nat.pow_zero, Nat.mul_one]) (by omega) (by omega) ?_
    rcases Int.le_total 0 (i - a) with g | g
    · rw [Int.tmod_eq_emod_of_nonneg g] at c; exact c
    · have w := Int.neg_tmod (a := i - a) (b := 2)
      rw [Int.tmod_eq_emod_of_nonneg (by omega), c] at w
      omega
  · rw [if_neg c]
    simp only [spec_Sqrt.j2]
    rw [wrap64_id (by omega) (by omega), u (n := x * 2) (by omega) (by omega)]
    refine fin (x * 2) 1 (i - a - 1) (by rw [Nat.pow_one]) (by omega) (by omega) ?_
    rcases Int.le_total 0 (i - a) with g | g
    · rw [Int.tmod_eq_emod_of_nonneg g] at c; omega
    · have w := Int.neg_tmod (a := i - a) (b := 2)
      rw [Int.tmod_eq_emod_of_nonneg (by omega)] at w
      omega
theorem sqrt_ok {k : Nat} (hk : 9400 ≤ k) {X : Nat} (hX : X < 18446744073709551616) : spec_Sqrt.f k (X : Int) = some (opW (double.sqrt X)) := by
  obtain ⟨k, rfl⟩ : ∃ q, k = q + 2 := ⟨k - 2, by omega⟩
  unfold spec_Sqrt.f Format.sqrt
  rw [sparts_k hX (by omega)]
  have a := kn hX
  have hz : ∀ s i, double.read X = .number s 0 i → X = double.word s 0 := fun s i h => read_zero hX h
  have hi : ∀ s, double.read X = .infinity s → X = double.word s 9218868437227405312 := fun s h => read_inf hX h
  rw [Option.bind_some]
  generalize PN (X : Int) = p at a
  generalize double.read X = d at a hz hi
  cases a <;> simp (config := { decide := true }) only [if_true, if_false, spec_Sqrt.j0]
  case nan s f => rfl
  case inf s =>
    cases s
    · rw [hi false rfl]; rfl
    · rfl
  case zero s i =>
    rw [hz s i rfl]
    show _ = some (opW (some (double.nearest s 0 _)))
    rw [nearest_zero]
    rfl
  case fin s m i h0 h1 h2 h3 =>
    cases s
    · exact sqrt_fin_ok m i h0 h1 h2 h3 (by omega)
    · simp only [spec_Sqrt.j1, if_true]
      show _ = some (opW ((Datum.root 54 (.number true m i)).map double.write))
      unfold Datum.root
      dsimp only
      rw [if_neg (by omega)]
      rfl
end Go.Proofs.Ytokhgodcamhibaa.Root
end
section
namespace Go.Proofs.Ytokhgodcamhibaa.Root
open Go.RowKit Go.Proofs.Ytokhgodcamhibaa.Fl Go.Proofs.Ytokhgodcamhibaa.Num Go.Proofs.Ytokhgodcamhibaa.Quot Ieee
set_option linter.unusedVariables false
set_option linter.unusedSimpArgs false
theorem is_root_sq (n : Nat) : IsRoot (n * n) n := ⟨Nat.le_refl _, by rw [Nat.mul_add, Nat.add_mul]; omega⟩
theorem root_square {m n I : Nat} {i : Int} (hI : i = (I : Int) - 1074) (hm : 0 < m) (hm2 : m < 9007199254740992) (h : m * 2 ^ I = n * n * 2 ^ 1074) (hn : n < 9007199254740992) :
    (Datum.root 54 (.number false m i)).map double.write = some (double.nearest false n 0) := by
  obtain ⟨x, r, p, h1, h2, h3, e⟩ := root_fin false m i rfl hm hm2
  rw [e]
  congr 1
  generalize hK : 1074 = K at h
  have key : m * 2 ^ x * 2 ^ I = n * n * 2 ^ (K + x) := by
    rw [Nat.mul_assoc, Nat.mul_comm (2 ^ x), ← Nat.mul_assoc, h, Nat.mul_assoc, ← Nat.pow_add]
  rcases Int.le_total p 0 with c | c
  · obtain ⟨q, hq⟩ : ∃ q : Nat, p = -(q : Int) := ⟨(-p).toNat, by omega⟩
    have hx : K + x = 2 * q + I := by omega
    rw [hx, Nat.pow_add, ← Nat.mul_assoc] at key
    have k2 := Nat.eq_of_mul_eq_mul_right (Nat.two_pow_pos I) key
    have k3 : m * 2 ^ x = (n * 2 ^ q) * (n * 2 ^ q) := by
      rw [k2, Nat.mul_mul_mul_comm, ← Nat.pow_add, show q + q = 2 * q by omega]
    rw [k3] at h1 ⊢
    have hr := root_unique h1 (is_root_sq (n * 2 ^ q))
    unfold rootF
    rw [hr, show (n * 2 ^ q * (n * 2 ^ q) != n * 2 ^ q * (n * 2 ^ q)) = false by simp]
    show double.nearest false (2 * (n * 2 ^ q) + 0) (p - 1) = _
    rw [Nat.add_zero, show 2 * (n * 2 ^ q) = n * 2 ^ (q + 1) by rw [Nat.pow_succ]; generalize 2 ^ q = z; rw [Nat.mul_comm 2, Nat.mul_assoc], nearest_scale]
    congr 1
    omega
  · exfalso
    obtain ⟨q, hq⟩ : ∃ q : Nat, p = (q : Int) := ⟨p.toNat, by omega⟩
    have hx : I = 2 * q + (K + x) := by omega
    rw [hx, Nat.pow_add, ← Nat.mul_assoc] at key
    have k2 := Nat.eq_of_mul_eq_mul_right (Nat.two_pow_pos _) key
    have k3 : m * 2 ^ x ≤ n * n := by rw [← k2]; exact Nat.le_mul_of_pos_right _ (Nat.two_pow_pos _)
    have k4 := Nat.mul_le_mul h2 h2
    have k5 : n * n ≤ 9007199254740991 * 9007199254740991 := Nat.mul_le_mul (by omega) (by omega)
    have := h1.1
    omega
theorem sqrt_whole {n : Nat} (h : n * n < 9007199254740992) : double.sqrt (wh ((n * n : Nat) : Int)) = some (wh (n : Int)) := by
  have w : ∀ k : Nat, wh (k : Int) = double.word false (up k) := by
    intro k
    unfold wh
    rw [decide_eq_false (by omega)]
    rfl
  rw [w, w]
  obtain ⟨px, vx⟩ := up_ok h
  unfold Format.sqrt
  rw [read_word _ px]
  rcases Nat.eq_zero_or_pos n with z | z
  · subst z
    rw [show (0 * 0 : Nat) = 0 from rfl, mant_zero]
    show some (double.nearest false 0 _) = some (double.word false (up 0))
    rw [nearest_zero, up_zero]
  · have hn : n < 9007199254740992 := by
      rcases Nat.lt_or_ge n 9007199254740992 with c | c
      · exact c
      · have := Nat.mul_le_mul c c
        omega
    have hg := place_ge (up (n * n))
    show (Datum.root 54 (.number false (mant (up (n * n))) (place (up (n * n))))).map double.write = _
    rw [root_square (n := n) (I := (place (up (n * n)) + 1074).toNat) (by omega) (mant_pos h (Nat.mul_pos z z)) (mant_lt _) vx hn, near_whole]
end Go.Proofs.Ytokhgodcamhibaa.Root
end
section
namespace Go.Proofs.Ytokhgodcamhibaa.Fl
open Ieee
set_option linter.unusedVariables false
set_option linter.unusedSimpArgs false
theorem rne_ge (n d : Nat) : n / 2 ^ d ≤ rne n d := by unfold rne; omega
theorem rne_le {n d K : Nat} (h : n < 2 ^ d * K) : rne n d ≤ K := by
  have h1 : n / 2 ^ d < K := Nat.div_lt_of_lt_mul h
  unfold rne
  split <;> omega
theorem rne_mono {n m : Nat} (d : Nat) (h : n ≤ m) : rne n d ≤ rne m d := by
  have hp : 0 < 2 ^ d := Nat.two_pow_pos d
  unfold rne
  have e1 := Nat.div_add_mod n (2 ^ d)
  have e2 := Nat.div_add_mod m (2 ^ d)
  have hq : n / 2 ^ d ≤ m / 2 ^ d := Nat.div_le_div_right h
  rcases Nat.lt_or_ge (n / 2 ^ d) (m / 2 ^ d) with c | c
  · split <;> split <;> omega
  · have he : n / 2 ^ d = m / 2 ^ d := Nat.le_antisymm hq c
    rw [he] at e1 ⊢
    generalize n % 2 ^ d = r at *
    generalize m % 2 ^ d = s at *
    generalize m / 2 ^ d = q at *
    have hrs : r ≤ s := by
      generalize 2 ^ d * q = z at *
      omega
    clear e1 e2 hq c he h
    generalize 2 ^ d = z at *
    by_cases a : z < 2 * r ∨ (z = 2 * r ∧ q % 2 = 1)
    · rw [if_pos a, if_pos (by omega)]
      exact Nat.le_refl _
    · rw [if_neg a]
      omega
theorem last_ge (p : Int) (L : Nat) : -1074 ≤ last p L ∧ p + L - 52 ≤ last p L := by unfold last; omega
/-- What is kept is not above twice a binade's width. -/
theorem kept_le {m L : Nat} {p : Int} (h : m < 2 ^ (L + 1)) : rne (m * 2 ^ (p - last p L).toNat) (last p L - p).toNat ≤ 9007199254740992 := by
  have hl := (last_ge p L).2
  obtain ⟨a, ha⟩ : ∃ a, (p - last p L).toNat = a := ⟨_, rfl⟩
  obtain ⟨b, hb⟩ : ∃ b, (last p L - p).toNat = b := ⟨_, rfl⟩
  rw [ha, hb]
  apply rne_le
  have h1 : m * 2 ^ a < 2 ^ (L + 1) * 2 ^ a := Nat.mul_lt_mul_of_pos_right h (Nat.two_pow_pos _)
  rw [← Nat.pow_add] at h1
  refine Nat.lt_of_lt_of_le h1 ?_
  rw [show 9007199254740992 = 2 ^ 53 from by decide, ← Nat.pow_add]
  exact Nat.pow_le_pow_right (by decide) (by omega)
theorem kept_ge {m L : Nat} {p : Int} (h : 2 ^ L ≤ m) (he : last p L = p + L - 52) : 4503599627370496 ≤ rne (m * 2 ^ (p - last p L).toNat) (last p L - p).toNat := by
  obtain ⟨a, ha⟩ : ∃ a, (p - last p L).toNat = a := ⟨_, rfl⟩
  obtain ⟨b, hb⟩ : ∃ b, (last p L - p).toNat = b := ⟨_, rfl⟩
  rw [ha, hb]
  refine Nat.le_trans ?_ (rne_ge _ _)
  rw [Nat.le_div_iff_mul_le (Nat.two_pow_pos _)]
  have h1 : 2 ^ L * 2 ^ a ≤ m * 2 ^ a := Nat.mul_le_mul_right _ h
  rw [← Nat.pow_add] at h1
  refine Nat.le_trans ?_ h1
  rw [show 4503599627370496 = 2 ^ 52 from by decide, ← Nat.pow_add]
  exact Nat.pow_le_pow_right (by decide) (by omega)
theorem nearest_mono {M N : Nat} (p : Int) (h : M ≤ N) : double.nearest false M p ≤ double.nearest false N p := by
  rcases Nat.eq_zero_or_pos M with z | z
  · subst z
    rw [nearest_zero, word_eq]
    exact Nat.zero_le _
  · obtain ⟨L, l1, l2⟩ := log_of z
    obtain ⟨K, k1, k2⟩ := log_of (show 0 < N by omega)
    rw [nearest_eq false M p L l1 l2, nearest_eq false N p K k1 k2, word_eq, word_eq, if_neg (by decide), if_neg (by decide)]
    have hLK : L ≤ K := by
      rcases Nat.lt_or_ge K L with c | c
      · exfalso
        have := Nat.pow_le_pow_right (show 0 < 2 by decide) (show K + 1 ≤ L by omega)
        omega
      · exact c
    have hm : ∀ a b c : Nat, a ≤ b → min a c ≤ min b c := by intro a b c h; omega
    apply hm
    have g1 := last_ge p L
    have g2 := last_ge p K
    rcases Int.lt_or_le (last p L) (last p K) with c | c
    · have a1 := kept_le (p := p) l2
      have a2 := kept_ge (p := p) k1 (by unfold last at *; omega)
      generalize rne (M * 2 ^ (p - last p L).toNat) (last p L - p).toNat = x at *
      generalize rne (N * 2 ^ (p - last p K).toNat) (last p K - p).toNat = y at *
      omega
    · have he : last p L = last p K := by unfold last at *; omega
      rw [he]
      exact Nat.add_le_add_left (rne_mono _ (Nat.mul_le_mul_right _ h)) _
theorem nearest_le {M N : Nat} {p q : Int} (a c : Nat) (h : M * 2 ^ a ≤ N * 2 ^ c) (hp : p - a = q - c) : double.nearest false M p ≤ double.nearest false N q := by
  have e1 := nearest_scale false M a (p - a)
  have e2 := nearest_scale false N c (p - a)
  rw [show p - a + a = p by omega] at e1
  rw [show p - (a : Int) + c = q by omega] at e2
  rw [← e1, ← e2]
  exact nearest_mono _ h
end Go.Proofs.Ytokhgodcamhibaa.Fl
end
section
namespace Go.Proofs.Ytokhgodcamhibaa.Root
open Go.RowKit Go.Proofs.Ytokhgodcamhibaa.Fl Go.Proofs.Ytokhgodcamhibaa.Num Go.Proofs.Ytokhgodcamhibaa.Quot Ieee
set_option linter.unusedVariables false
set_option linter.unusedSimpArgs false
/-- Where a number next to the root lies: by the root's first digits r at the place p, units of 2 ^ -U. -/
theorem side {r s T P B mt z : Nat} (hT : T = 2 * r + s) (hs : s ≤ 1) (hP : 0 < P) (hz : B = z * 2 ^ P ∨ B < r * 2 ^ P) :
    (B < T * 2 ^ (P - 1) → B ≤ r * 2 ^ P) ∧ (T * 2 ^ (P - 1) < B → (r + 1) * 2 ^ P ≤ B) := by
  obtain ⟨q, rfl⟩ : ∃ q, P = q + 1 := ⟨P - 1, by omega⟩
  rw [Nat.add_sub_cancel]
  have e : ∀ n : Nat, n * 2 ^ (q + 1) = 2 * n * 2 ^ q := by intro n; rw [Nat.pow_succ]; generalize 2 ^ q = w; rw [Nat.mul_comm w, ← Nat.mul_assoc, Nat.mul_comm n]
  rw [e, e] at *
  have hq : 0 < 2 ^ q := Nat.two_pow_pos q
  rcases hz with hz | hz
  · rw [hz, hT]
    constructor
    · intro h
      have := Nat.lt_of_mul_lt_mul_right h
      exact Nat.mul_le_mul_right _ (by omega)
    · intro h
      have := Nat.lt_of_mul_lt_mul_right h
      exact Nat.mul_le_mul_right _ (by omega)
  · refine ⟨fun _ => Nat.le_of_lt hz, fun h => ?_⟩
    exfalso
    have : 2 * r * 2 ^ q ≤ T * 2 ^ q := Nat.mul_le_mul_right _ (by omega)
    omega
theorem V_at {Y U P : Nat} {p : Int} {r : Nat} (hU : 1074 ≤ U) (hP : (P : Int) = p + U) (hr : 9007199254740992 ≤ r) : ∃ z, V Y * 2 ^ (U - 1074) = z * 2 ^ P ∨ V Y * 2 ^ (U - 1074) < r * 2 ^ P := by
  have hg := place_ge Y
  have hm := mant_lt Y
  unfold V
  rw [Nat.mul_assoc, ← Nat.pow_add]
  obtain ⟨n, hn⟩ : ∃ n, (place Y + 1074).toNat + (U - 1074) = n := ⟨_, rfl⟩
  have hnv : (n : Int) = place Y + U := by omega
  rw [hn]
  rcases Nat.lt_or_ge n P with c | c
  · refine ⟨0, .inr ?_⟩
    have h1 : mant Y * 2 ^ n < 9007199254740992 * 2 ^ n := Nat.mul_lt_mul_of_pos_right hm (Nat.two_pow_pos _)
    have h2 : 9007199254740992 * 2 ^ n ≤ r * 2 ^ P := Nat.mul_le_mul hr (Nat.pow_le_pow_right (by decide) (Nat.le_of_lt c))
    exact Nat.lt_of_lt_of_le h1 h2
  · refine ⟨mant Y * 2 ^ (n - P), .inl ?_⟩
    rw [Nat.mul_assoc, ← Nat.pow_add, Nat.sub_add_cancel c]
/-- The root, and what the numbers beside it come to. -/
theorem root_sides {X : Nat} (hX : Pos X) (hm : 0 < mant X) : ∃ R U : Nat, double.sqrt X = some R ∧ 1074 ≤ U ∧
    (∀ Y, Pos Y → Y < R → V Y * V Y * 2 ^ (2 * U - 2148) ≤ V X * 2 ^ (2 * U - 1074)) ∧ (∀ Y, Pos Y → R < Y → V X * 2 ^ (2 * U - 1074) < V Y * V Y * 2 ^ (2 * U - 2148)) := by
  obtain ⟨x, r, p, h1, h2, h3, e⟩ := root_fin false (mant X) (place X) rfl hm (mant_lt X)
  obtain ⟨U, hU⟩ : ∃ U : Nat, U = 1074 + (1 - p).toNat := ⟨_, rfl⟩
  obtain ⟨P, hP⟩ : ∃ P : Nat, (P : Int) = p + U := ⟨(p + U).toNat, by omega⟩
  have hP0 : 0 < P := by omega
  obtain ⟨s, hs⟩ : ∃ s, (r * r != mant X * 2 ^ x).toNat = s := ⟨_, rfl⟩
  have hs1 : s ≤ 1 := by rw [← hs]; exact Bool.toNat_le _
  have hR : double.sqrt X = some (double.nearest false (2 * r + s) (p - 1)) := by
    unfold Format.sqrt
    rw [hX.read]
    show (Datum.root 54 _).map double.write = _
    rw [e]
    unfold rootF
    rw [hs]
  have hV : mant X * 2 ^ x * (2 ^ P * 2 ^ P) = V X * 2 ^ (2 * U - 1074) := by
    have hg := place_ge X
    unfold V
    rw [← Nat.pow_add, Nat.mul_assoc, Nat.mul_assoc, ← Nat.pow_add, ← Nat.pow_add, show x + (P + P) = (place X + 1074).toNat + (2 * U - 1074) by omega]
  have sq : ∀ n : Nat, n * 2 ^ P * (n * 2 ^ P) = n * n * (2 ^ P * 2 ^ P) := fun n => Nat.mul_mul_mul_comm _ _ _ _
  have sV : ∀ Y : Nat, V Y * 2 ^ (U - 1074) * (V Y * 2 ^ (U - 1074)) = V Y * V Y * 2 ^ (2 * U - 2148) := by
    intro Y
    rw [Nat.mul_mul_mul_comm, ← Nat.pow_add, show U - 1074 + (U - 1074) = 2 * U - 2148 by omega]
  refine ⟨_, U, hR, by omega, fun Y hY hlt => ?_, fun Y hY hlt => ?_⟩
  · obtain ⟨z, hz⟩ := V_at (Y := Y) (U := U) (P := P) (p := p) (r := r) (by omega) hP h2
    have c : V Y * 2 ^ (U - 1074) < (2 * r + s) * 2 ^ (P - 1) := by
      rcases Nat.lt_or_ge (V Y * 2 ^ (U - 1074)) ((2 * r + s) * 2 ^ (P - 1)) with c | c
      · exact c
      · exfalso
        have := nearest_le (M := 2 * r + s) (N := V Y) (p := p - 1) (q := -1074) (P - 1) (U - 1074) c (by omega)
        rw [near_V false hY, word_eq, if_neg (by decide)] at this
        omega
    have d := (side (mt := 0) rfl hs1 hP0 hz).1 c
    have d2 := Nat.mul_le_mul d d
    rw [sV, sq] at d2
    rw [← hV]
    exact Nat.le_trans d2 (Nat.mul_le_mul_right _ h1.1)
  · obtain ⟨z, hz⟩ := V_at (Y := Y) (U := U) (P := P) (p := p) (r := r) (by omega) hP h2
    have c : (2 * r + s) * 2 ^ (P - 1) < V Y * 2 ^ (U - 1074) := by
      rcases Nat.lt_or_ge ((2 * r + s) * 2 ^ (P - 1)) (V Y * 2 ^ (U - 1074)) with c | c
      · exact c
      · exfalso
        have := nearest_le (M := V Y) (N := 2 * r + s) (p := -1074) (q := p - 1) (U - 1074) (P - 1) c (by omega)
        rw [near_V false hY, word_eq, if_neg (by decide)] at this
        omega
    have d := (side (mt := 0) rfl hs1 hP0 hz).2 c
    have d2 := Nat.mul_le_mul d d
    rw [sV, sq] at d2
    rw [← hV]
    exact Nat.lt_of_lt_of_le (Nat.mul_lt_mul_of_pos_right h1.2 (Nat.mul_pos (Nat.two_pow_pos _) (Nat.two_pow_pos _))) d2
/-- A number's square, rounded. -/
theorem mul_self {Y : Nat} (hY : Pos Y) : double.mul Y Y = some (double.nearest false (V Y * V Y) (-2148)) := by
  unfold Format.mul
  rw [hY.read]
  show some (double.nearest false (mant Y * mant Y) (place Y + place Y)) = _
  congr 1
  have hg := place_ge Y
  refine near_eq false ((place Y + 1074).toNat + (place Y + 1074).toNat) 0 ?_ (by omega)
  unfold V
  rw [Nat.pow_zero, Nat.mul_one, Nat.pow_add, Nat.mul_mul_mul_comm]
end Go.Proofs.Ytokhgodcamhibaa.Root
end
section
namespace Go.Proofs.Ytokhgodcamhibaa.Root
open Go.RowKit Go.Proofs.YtokhgodcamhibaaW.PrintWords Go.Proofs.YtokhgodcamhibaaW.PrintMore Go.Proofs.Ytokhgodcamhibaa.Fl Go.Proofs.Ytokhgodcamhibaa.Num Go.Proofs.Ytokhgodcamhibaa.Quot Go.Proofs.Ytokhgodcamhibaa.QFnExactDoBinary Go.Proofs.Ytokhgodcamhibaa.QFnQuotients Go.Proofs.Ytokhgodcamhibaa.QFnRoots Go.Proofs.Ytokhgodcamhibaa.Rnd Ieee
set_option linter.unusedVariables false
set_option linter.unusedSimpArgs false
def W (r : Int) : Prop := 0 ≤ r ∧ r < 18446744073709551616
theorem wrapW (n : Int) : W (IntKind.u64.wrap n) := by
  unfold W
  rw [IntKind.wrap_u64]
  omega
theorem pow63k {k : Nat} (hk : 100 ≤ k) : spec_l03Pow.f k 63 = some 9223372036854775808 := pow_k hk pow63
theorem near_lt (b : Bool) (m : Nat) (p : Int) : double.nearest b m p < 18446744073709551616 := by
  rcases Nat.eq_zero_or_pos m with z | z
  · subst z
    rw [nearest_zero, word_eq]
    split <;> omega
  · obtain ⟨L, h1, h2⟩ := log_of z
    rw [nearest_eq b m p L h1 h2]
    exact word_min
theorem round_w {k : Nat} (hk : 9000 ≤ k) (b : Bool) {x e : Int} (h0 : 0 ≤ x) (h1 : x < 9007199254740992) (h2 : -100 ≤ e) (h3 : e ≤ 100) : ∃ r, spec_RoundTo.f k b x e false = some r ∧ W r := by
  obtain ⟨n, rfl⟩ : ∃ n : Nat, x = (n : Int) := ⟨x.toNat, by omega⟩
  refine ⟨_, round_ok hk b n e false (by omega) (by omega) (by omega), ?_⟩
  rw [rnd_false]
  have := near_lt b n e
  exact ⟨by omega, by omega⟩
theorem once_ok {b : List Int} {i : Int} (h n : Int) (hc : Cur b i) (hn : n ≤ 4294967296) : ∃ x i' h', spec_l01Once.f b i h n = some (x, i', h') ∧ Cur b i' := by
  unfold spec_l01Once.f
  obtain ⟨x, i1, h1, e, _, _, hc1⟩ := below_ok h n hc hn
  rw [e]
  exact ⟨_, _, _, rfl, hc1⟩
theorem fromInt_ok {k : Nat} (hk : 9000 ≤ k) {n : Int} (h0 : -1000 ≤ n) (h1 : n ≤ 1000) : ∃ r, spec_FromInt.f k n = some r ∧ W r := by
  unfold spec_FromInt.f
  rw [if_neg (by omega)]
  by_cases c : n < 0
  · rw [if_pos c, wrap64_id (n := -n) (by omega) (by omega), u64_id (n := -n) (by omega) (by omega)]
    obtain ⟨r, hr, hw⟩ := round_w (k := k) (by omega) true (x := -n) (e := 0) (by omega) (by omega) (by omega) (by omega)
    rw [hr]
    exact ⟨r, rfl, hw⟩
  · rw [if_neg c, u64_id (n := n) (by omega) (by omega)]
    obtain ⟨r, hr, hw⟩ := round_w (k := k) (by omega) false (x := n) (e := 0) (by omega) (by omega) (by omega) (by omega)
    rw [hr]
    exact ⟨r, rfl, hw⟩
theorem bits_ok {b : List Int} {i : Int} (h : Int) (hc : Cur b i) : ∃ x i' h', spec_l03Bits64.f b i h = some (x, i', h') ∧ W x ∧ Cur b i' := by
  unfold spec_l03Bits64.f
  obtain ⟨x, i1, h1, e1, _, _, hc1⟩ := below_ok h 4294967296 hc (by omega)
  rw [e1]
  simp only [Option.bind_some]
  obtain ⟨y, i2, h2, e2, _, _, hc2⟩ := below_ok h1 4294967296 hc1 (by omega)
  rw [e2]
  exact ⟨_, _, _, rfl, wrapW _, hc2⟩
theorem j0_ok {b : List Int} {i : Int} (h q : Int) (t : Bool) (hc : Cur b i) {k : Nat} (hk : 9100 ≤ k) : ∃ x i' h', spec_l03Number.j0 k q t b i h = some (x, i', h') ∧ W x ∧ Cur b i' := by
  obtain ⟨k, rfl⟩ : ∃ m, k = m + 1 := ⟨k - 1, by omega⟩
  simp only [spec_l03Number.j0]
  by_cases ct : t = true
  · rw [if_pos ct]
    obtain ⟨x, i1, h1, e1, x0, x1, hc1⟩ := below_ok h 2000 hc (by omega)
    have := x1 (by omega)
    rw [e1]
    simp only [Option.bind_some]
    rw [wrap64_id (n := x - 1000) (by omega) (by omega)]
    obtain ⟨r, hr, hw⟩ := fromInt_ok (k := k) (by omega) (n := x - 1000) (by omega) (by omega)
    rw [hr]
    exact ⟨_, _, _, rfl, hw, hc1⟩
  · rw [if_neg ct]
    by_cases c3 : q = 3
    · rw [if_pos c3]
      obtain ⟨s, i1, h1, e1, hc1⟩ := once_ok h 2 hc (by omega)
      rw [e1]
      simp only [Option.bind_some]
      obtain ⟨x, i2, h2, e2, x0, x1, hc2⟩ := below_ok h1 1000000 hc1 (by omega)
      have := x1 (by omega)
      rw [e2]
      simp only [Option.bind_some]
      obtain ⟨y, i3, h3, e3, y0, y1, hc3⟩ := below_ok h2 40 hc2 (by omega)
      have := y1 (by omega)
      rw [e3]
      simp only [Option.bind_some]
      rw [u64_id (n := x) (by omega) (by omega), wrap64_id (n := y - 30) (by omega) (by omega)]
      obtain ⟨r, hr, hw⟩ := round_w (k := k) (by omega) s (x := x) (e := y - 30) (by omega) (by omega) (by omega) (by omega)
      rw [hr]
      exact ⟨_, _, _, rfl, hw, hc3⟩
    · rw [if_neg c3]
      by_cases c4 : q = 4
      · rw [if_pos c4]
        obtain ⟨x, i1, h1, e1, _, _, hc1⟩ := below_ok h 2048 hc (by omega)
        rw [e1]
        simp only [Option.bind_some]
        obtain ⟨y, i2, h2, e2, _, _, hc2⟩ := below_ok h1 4 hc1 (by omega)
        rw [e2]
        exact ⟨_, _, _, rfl, wrapW _, hc2⟩
      · rw [if_neg c4]
        by_cases c5 : q = 5
        · rw [if_pos c5]
          obtain ⟨s, i1, h1, e1, hc1⟩ := once_ok h 2 hc (by omega)
          rw [e1]
          simp only [Option.bind_some]
          obtain ⟨x, i2, h2, e2, ⟨x0, x1⟩, hc2⟩ := bits_ok h1 hc1
          rw [e2]
          simp only [Option.bind_some]
          obtain ⟨y, i3, h3, e3, y0, y1, hc3⟩ := below_ok h2 120 hc2 (by omega)
          have := y1 (by omega)
          rw [e3]
          simp only [Option.bind_some]
          rw [tdiv_pos x0, u64_id (n := x / 2048) (by omega) (by omega), wrap64_id (n := y - 80) (by omega) (by omega)]
          obtain ⟨r, hr, hw⟩ := round_w (k := k) (by omega) s (x := x / 2048) (e := y - 80) (by omega) (by omega) (by omega) (by omega)
          rw [hr]
          exact ⟨_, _, _, rfl, hw, hc3⟩
        · rw [if_neg c5]
          obtain ⟨x, i2, h2, e2, hw, hc2⟩ := bits_ok h hc
          rw [e2]
          exact ⟨_, _, _, rfl, hw, hc2⟩
def edges : List Int := [0, 9223372036854775808, 1, 2, 4503599627370495, 4503599627370496, 4503599627370497, 9218868437227405312, 9218868437227405311, 9218868437227405310, 9221120237041090560, 9221120237041090561, IntKind.u64.wrap (9218868437227405312 + 9223372036854775808), IntKind.u64.wrap (9221120237041090560 + 9223372036854775808), 9218868437227405313, 4607182418800017408, 4607182418800017409]
theorem edges_ok : ∀ n : Fin 17, 0 ≤ edges.getD n.val 0 ∧ edges.getD n.val 0 < 18446744073709551616 := by decide +kernel
theorem number_ok {b : List Int} {i : Int} (h : Int) (hc : Cur b i) {k : Nat} (hk : 9100 ≤ k) : ∃ x i' h', spec_l03Number.f k b i h = some (x, i', h') ∧ W x ∧ Cur b i' := by
  unfold spec_l03Number.f
  obtain ⟨x, i1, h1, e1, x0, x1, hc1⟩ := below_ok h 8 hc (by omega)
  rw [e1]
  simp only [Option.bind_some]
  by_cases c0 : x = 0
  · rw [if_pos c0, pow63k (by omega)]
    simp only [Option.bind_some]
    obtain ⟨y, i2, h2, e2, y0, y1, hc2⟩ := below_ok h1 (edges.length : Int) hc1 (by decide)
    have y2 := y1 (by decide)
    have hl : (edges.length : Int) = 17 := by decide
    have he : spec_l01Below.f b i1 h1 (edges.length : Int) = some (y, i2, h2) := e2
    refine ⟨rd edges y, i2, h2, ?_, ?_, hc2⟩
    · show (spec_l01Below.f b i1 h1 (edges.length : Int)).bind _ = _
      rw [he]
      simp only [Option.bind_some]
      rw [if_pos y0]
      exact if_pos y2
    · have := edges_ok ⟨y.toNat, by omega⟩
      exact this
  · rw [if_neg c0]
    by_cases c1 : x = 1
    · rw [if_pos c1]
      exact j0_ok h1 x _ hc1 hk
    · rw [if_neg c1]
      exact j0_ok h1 x _ hc1 hk
theorem draw_ok (b : List Int) (hb : b.length ≤ 1048576) {k : Nat} (hk : 1048577 ≤ k) : ∃ x y z, spec_DrawNumbers.f k b = some (x, y, z) ∧ W x ∧ W y ∧ W z := by
  unfold spec_DrawNumbers.f
  obtain ⟨h, e, hc⟩ := new_ok b hb hk
  rw [e]
  simp only [Option.bind_some]
  obtain ⟨x, i1, h1, e1, w1, hc1⟩ := number_ok h hc (k := k) (by omega)
  rw [e1]
  simp only [Option.bind_some]
  obtain ⟨y, i2, h2, e2, w2, hc2⟩ := number_ok h1 hc1 (k := k) (by omega)
  rw [e2]
  simp only [Option.bind_some]
  obtain ⟨z, i3, h3, e3, w3, hc3⟩ := number_ok h2 hc2 (k := k) (by omega)
  rw [e3]
  exact ⟨x, y, z, rfl, w1, w2, w3⟩
end Go.Proofs.Ytokhgodcamhibaa.Root
end
section
namespace Go.Proofs.Ytokhgodcamhibaa.Root
open Go.RowKit Go.Proofs.Ytokhgodcamhibaa.Fl Go.Proofs.Ytokhgodcamhibaa.Num Go.Proofs.Ytokhgodcamhibaa.Quot Ieee
set_option linter.unusedVariables false
set_option linter.unusedSimpArgs false
set_option exponentiation.threshold 8000
theorem near_inf (m : Nat) (p : Int) : double.nearest false m p ≤ 9218868437227405312 := by
  rcases Nat.eq_zero_or_pos m with z | z
  · subst z
    rw [nearest_zero, word_eq, if_neg (by decide)]
    omega
  · obtain ⟨L, h1, h2⟩ := log_of z
    rw [nearest_eq false m p L h1 h2, word_eq, if_neg (by decide)]
    exact Nat.min_le_right _ _
theorem order_le {x y : Nat} (hx : x ≤ 9218868437227405312) (hy : y ≤ 9218868437227405312) : (double.order x y == some .lt) = decide (x < y) := by
  have nx : Float.nanN x = false := by unfold Float.nanN; rw [decide_eq_false_iff_not]; omega
  have ny : Float.nanN y = false := by unfold Float.nanN; rw [decide_eq_false_iff_not]; omega
  have key : ∀ z : Nat, z ≤ 9218868437227405312 → Float.keyN z = (z : Int) := by
    intro z hz
    unfold Float.keyN
    rw [show z / 9223372036854775808 % 2 = 0 by omega, Nat.mod_eq_of_lt (by omega)]
    rfl
  rw [Float.order_key nx ny, key x hx, key y hy]
  by_cases c : x < y
  · rw [decide_eq_true c, show compare (x : Int) (y : Int) = .lt from by rw [Int.compare_eq_lt]; omega]
    rfl
  · rw [decide_eq_false c]
    cases h : compare (x : Int) (y : Int) with
    | lt => exact absurd (Int.compare_eq_lt.1 h) (by omega)
    | eq => rfl
    | gt => rfl
theorem V_one : V 1 = 1 := by decide +kernel
theorem pos_one : Pos 1 := by unfold Pos; omega
/-- 2 ^ 500. -/
theorem V_top : V 6858982232485265408 = 2 ^ 1574 := by decide +kernel
theorem pos_top : Pos 6858982232485265408 := by unfold Pos; omega
theorem near_ok {X : Nat} (hX : Pos X) (hm : 0 < mant X) (hi : place X ≤ 800) : ∃ R lo hi : Nat, double.sqrt X = some R ∧ 1 ≤ R ∧ R < 9000000000000000000 ∧ double.mul (R - 1) (R - 1) = some lo ∧ lo ≤ X ∧ double.mul (R + 1) (R + 1) = some hi ∧ X ≤ hi ∧ hi ≤ 9218868437227405312 := by
  obtain ⟨R, U, h1, hU, hA, hB⟩ := root_sides hX hm
  have hVX : 0 < V X := Nat.mul_pos hm (Nat.two_pow_pos _)
  have hR1 : 1 ≤ R := by
    rcases Nat.lt_or_ge R 1 with c | c
    · exfalso
      have h := hB 1 pos_one c
      rw [V_one, Nat.one_mul] at h
      have h2 : 2 ^ (2 * U - 2148) ≤ 2 ^ (2 * U - 1074) := Nat.pow_le_pow_right (by decide) (by omega)
      have h3 : 1 * 2 ^ (2 * U - 1074) ≤ V X * 2 ^ (2 * U - 1074) := Nat.mul_le_mul_right _ hVX
      rw [Nat.one_mul] at h3
      exact absurd (Nat.lt_of_lt_of_le h (Nat.le_trans h2 h3)) (Nat.lt_irrefl _)
    · exact c
  have hR2 : R ≤ 6858982232485265408 := by
    rcases Nat.lt_or_ge 6858982232485265408 R with c | c
    · exfalso
      have h := hA _ pos_top c
      rw [V_top, ← Nat.pow_add, ← Nat.pow_add] at h
      have hv : V X < 2 ^ 1927 := by
        unfold V
        have g1 : mant X * 2 ^ (place X + 1074).toNat < 9007199254740992 * 2 ^ (place X + 1074).toNat := Nat.mul_lt_mul_of_pos_right (mant_lt X) (Nat.two_pow_pos _)
        refine Nat.lt_of_lt_of_le g1 ?_
        rw [show 9007199254740992 = 2 ^ 53 from by decide, ← Nat.pow_add]
        exact Nat.pow_le_pow_right (by decide) (by omega)
      have g2 : V X * 2 ^ (2 * U - 1074) < 2 ^ 1927 * 2 ^ (2 * U - 1074) := Nat.mul_lt_mul_of_pos_right hv (Nat.two_pow_pos _)
      rw [← Nat.pow_add] at g2
      have g3 : 2 ^ (1927 + (2 * U - 1074)) ≤ 2 ^ (1574 + 1574 + (2 * U - 2148)) := Nat.pow_le_pow_right (by decide) (by omega)
      exact absurd (Nat.lt_of_lt_of_le g2 (Nat.le_trans g3 h)) (Nat.lt_irrefl _)
    · exact c
  have p1 : Pos (R - 1) := by unfold Pos; omega
  have p2 : Pos (R + 1) := by unfold Pos; omega
  refine ⟨R, _, _, h1, hR1, by omega, mul_self p1, ?_, mul_self p2, ?_, near_inf _ _⟩
  · have h := nearest_le (M := V (R - 1) * V (R - 1)) (N := V X) (p := -2148) (q := -1074) (2 * U - 2148) (2 * U - 1074) (hA _ p1 (by omega)) (by omega)
    rw [near_V false hX, word_eq, if_neg (by decide)] at h
    exact h
  · have h := nearest_le (M := V X) (N := V (R + 1) * V (R + 1)) (p := -1074) (q := -2148) (2 * U - 1074) (2 * U - 2148) (Nat.le_of_lt (hB _ p2 (by omega))) (by omega)
    rw [near_V false hX, word_eq, if_neg (by decide)] at h
    exact h
end Go.Proofs.Ytokhgodcamhibaa.Root
end
section
namespace Go.Proofs.Ytokhgodcamhibaa.FlI
open Go.RowKit Go.Proofs.YtokhgodcamhibaaW.PrintWords Go.Proofs.YtokhgodcamhibaaW.PrintLast Go.Proofs.YtokhgodcamhibaaW.PrintMore Go.Proofs.Ytokhgodcamhibaa.Law Go.Proofs.Ytokhgodcamhibaa.Fl Ieee
set_option linter.unusedVariables false
set_option linter.unusedSimpArgs false
theorem sqrt_nan {x r : Nat} (h : double.sqrt x = some r) : Float.nanN r = false := map_nan (fun _ => root_nan) (show (Datum.root 54 (double.read x)).map double.write = some r from h)
theorem sqrt_base (x : Nat) (w : World) : (callFunc 70 #[.float .f64 x]).run Try.prog w = ((match double.sqrt x with | some r => pure (Value.float .f64 r) | none => do pure (Value.float .f64 (← choose (.nanBits .f64 x x)))) >>= fun v => pure (Next.value v) : Sem Next).run Try.prog w := by kernel_rfl
theorem sqrt_run (x : Nat) (w : World) : ∃ r w1, (callFunc 70 #[.float .f64 x]).run Try.prog w = .ok (.value (.float .f64 r)) w1 ∧ wordF r = opW (double.sqrt x) ∧ (w1 = w ∨ w1 = w.drew) := by
  rw [sqrt_base]
  cases h : double.sqrt x with
  | some r => exact ⟨r, w, rfl, wordF_some (sqrt_nan h), .inl rfl⟩
  | none =>
    refine ⟨Question.cut (.nanBits .f64 x x) (w.tape w.drawn (.nanBits .f64 x x)), w.drew, ?_, wordF_nan ?_, .inr rfl⟩
    · simp [Question.forced]
    · unfold Float.nanN Question.cut
      simp only
      generalize w.tape w.drawn _ = t
      rw [decide_eq_true_eq, show (2 : Nat) ^ 63 = 9223372036854775808 from by decide, show (2 : Nat) ^ 52 - 1 = 4503599627370495 from by decide]
      have h1 : t / 2 % 4503599627370495 < 4503599627370495 := Nat.mod_lt _ (by decide)
      generalize t / 2 % 4503599627370495 = u at h1
      rcases Nat.mod_two_eq_zero_or_one t with q | q <;> rw [q] <;> omega
theorem Sqrt (x : Nat) (w : World) : Calls Try.prog 39 #[.float .f64 x] w fun e w' => ∃ r, e = .returned (.float .f64 r) ∧ wordF r = opW (double.sqrt x) ∧ (w' = w ∨ w' = w.drew) := by
  obtain ⟨r, w1, hrun, hr, hw⟩ := sqrt_run x w
  have HR := Aside0.mk hr; have HW := Aside0.mk hw
  clear hr hw
  go_enter Try.func39, Try.ntmps39
  go_wp2
  go_ret
  exact ⟨r, rfl, HR.out, HW.out⟩
theorem sqrt (x : Int) (w : World) : Calls Try.prog 14 #[.int .u64 x] w fun e w' => e = .returned (.int .u64 (opW (double.sqrt x.toNat))) ∧ Drawn0 w w' := by
  go_enter Try.func14, Try.ntmps14
  go_wp2_with fail
  refine (real64 _ _).mono ?_
  rintro e v ⟨rfl, rfl⟩
  go_wp2_with fail
  refine (Sqrt _ _).mono ?_
  rintro e v2 ⟨r, rfl, hr, hw⟩
  have HR := Aside0.mk hr; have HW := Aside0.mk hw
  clear hr hw
  go_wp2_with fail
  refine (word _ _).mono ?_
  rintro e v3 ⟨rfl, rfl⟩
  go_wp2
  go_ret
  exact ⟨by rw [HR.out]; rfl, by rcases HW.out with h | h <;> rw [h]; exact Drawn0.refl _; exact ⟨⟨1, rfl⟩⟩⟩
end Go.Proofs.Ytokhgodcamhibaa.FlI
end
section
namespace Go.Proofs.Ytokhgodcamhibaa
open Go.RowKit Go.Proofs.YtokhgodcamhibaaW.PrintWords Go.Proofs.YtokhgodcamhibaaW.PrintMore
set_option linter.unusedVariables false
/-- The element at a place, a given one beyond. -/
def el {α : Type} (z : α) (l : List α) (j : Nat) : α := l.getD j z
theorem rd_el (l : List Int) (j : Nat) : rd l (j : Int) = el 0 l j := by simp [rd, el]
theorem int_at {w : World} {k : IntKind} {A : Option Addr} {l : List Int} (h : (Kd.int k).C w A l.length l) (j : Nat) (hj : j < l.length) : ∃ a, A = some a ∧ w.cell? (a.add j) = some (.int k (el 0 l j)) := by
  obtain ⟨a, e, hc⟩ := Kd.at_int h (j : Int) (by omega) (by omega)
  exact ⟨a, e, by rw [← rd_el]; simpa using hc⟩
end Go.Proofs.Ytokhgodcamhibaa
end
section
namespace Go.Proofs.Ytokhgodcamhibaa.Law
open Go.RowKit Go.Proofs.YtokhgodcamhibaaW.PrintWords Go.Proofs.YtokhgodcamhibaaW.PrintMore
set_option linter.unusedVariables false
/-- A holding: the blocks lo .. hi, and what the world says of them. -/
structure Hold where
  lo : Nat
  hi : Nat
  P : World → Prop
  mv : ∀ {W W2 : World}, (∀ k, lo ≤ k → k < hi → k < W.heap.size → W2.heap[k]? = W.heap[k]?) → P W → P W2
def Hold.box (g : Nat) (cs : Array Value) (t : TypeId) : Hold := ⟨g, g + 1, fun W => W.heap[g]? = some (.cells cs t (0, 0)), fun hm h => (hm g (Nat.le_refl _) (Nat.lt_succ_self _) (blk_lt h)).trans h⟩
def Hold.val {α : Type} (d : Kd α) (lo hi : Nat) (x : α) (cs : List Value) : Hold := ⟨lo, hi, fun W => d.M W lo (fun k => lo ≤ k ∧ k < hi) x cs, fun hm h => Kd.M_step h (fun k hk hlt => hm k hk.1 hk.2 hlt)⟩
structure Mem (w W : World) (H : List Hold) : Prop where
  below : Below w.heap.size w W
  says : ∀ h ∈ H, h.P W
  fits : ∀ h ∈ H, w.heap.size ≤ h.lo ∧ h.hi ≤ W.heap.size
  apart : H.Pairwise (fun a b => b.hi ≤ a.lo ∨ a.hi ≤ b.lo)
theorem Mem.start (w : World) : Mem w w [] := ⟨Below.refl _ _, fun _ h => absurd h List.not_mem_nil, fun _ h => absurd h List.not_mem_nil, List.Pairwise.nil⟩
theorem Mem.step {w W W2 : World} {H : List Hold} (h : Mem w W H) (hb : Below W.heap.size W W2) : Mem w W2 H :=
  ⟨below_step h.below hb, fun x hx => x.mv (fun k _ _ hlt => hb.block k hlt) (h.says x hx), fun x hx => ⟨(h.fits x hx).1, Nat.le_trans (h.fits x hx).2 hb.size⟩, h.apart⟩
theorem Mem.drew {w W : World} {H : List Hold} (h : Mem w W H) : Mem w W.drew H := h.step (below_drew1 (Below.refl _ _))
theorem Mem.alloc {w W : World} {H : List Hold} (h : Mem w W H) (cs : Array Value) (t : TypeId) : Mem w (W.alloc (.cells cs t)) (Hold.box W.heap.size cs t :: H) := by
  have h2 := h.step (below_alloc (Below.refl W.heap.size W) (.cells cs t))
  refine ⟨h2.below, fun x hx => ?_, fun x hx => ?_, List.Pairwise.cons (fun b hb => .inl (h.fits b hb).2) h.apart⟩
  · rcases List.mem_cons.1 hx with rfl | hx
    · exact blk_new W _
    · exact h2.says x hx
  · rcases List.mem_cons.1 hx with rfl | hx
    · exact ⟨h.below.size, by simp [Hold.box]⟩
    · exact h2.fits x hx
theorem Mem.box {w W : World} {H : List Hold} {g : Nat} {cs : Array Value} {t : TypeId} (h : Mem w W H) (hm : Hold.box g cs t ∈ H) : ∀ o, W.cell? ⟨g, o, none⟩ = cs[o]? := fun o => blk_cell (h.says _ hm) o
theorem Mem.val {α : Type} {d : Kd α} {w W : World} {H : List Hold} {lo hi : Nat} {x : α} {cs : List Value} (h : Mem w W H) (hm : Hold.val d lo hi x cs ∈ H) : d.M W lo (fun k => lo ≤ k ∧ k < hi) x cs := h.says _ hm
theorem Mem.read {α : Type} {d : Kd α} {w W : World} {H : List Hold} {lo hi : Nat} {x : α} {cs : List Value} (h : Mem w W H) (hm : Hold.val d lo hi x cs ∈ H) : d.K W x cs := d.K_of_M (h.val hm)
theorem Mem.drop {w W : World} {h0 : Hold} {H : List Hold} (h : Mem w W (h0 :: H)) : Mem w W H := ⟨h.below, fun x hx => h.says x (.tail _ hx), fun x hx => h.fits x (.tail _ hx), (List.pairwise_cons.1 h.apart).2⟩
theorem Mem.allocAt {w W : World} {H : List Hold} (h : Mem w W H) {g : Nat} (hg : g = W.heap.size) (cs : Array Value) (t : TypeId) : Mem w (W.alloc (.cells cs t)) (Hold.box g cs t :: H) := hg ▸ h.alloc cs t
theorem Mem.row {α : Type} {d : Kd α} {e : Nat} {w W : World} {H : List Hold} {lo hi : Nat} {l : List α} {v : Value} (h : Mem w W H) (hm : Hold.val (Kd.slice e d) lo hi l [v] ∈ H) : d.R e W lo (fun k => lo ≤ k ∧ k < hi) v l := by
  obtain ⟨v2, he, hr⟩ := h.val hm
  cases he
  exact hr
theorem Mem.blk {w W : World} {H : List Hold} {g : Nat} {cs : Array Value} {t : TypeId} (h : Mem w W H) (hm : Hold.box g cs t ∈ H) : W.heap[g]? = some (.cells cs t (0, 0)) := h.says _ hm
end Go.Proofs.Ytokhgodcamhibaa.Law
end
