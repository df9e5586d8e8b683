/- The walk of the law 'FnExactSameValue', and of what it calls that handles floats. -/
import Derived.Test.YtdgjbpefbkgnpaaQFnExactSameValuex1
import Derived.Test.YtdgjbpefbkgnpaaLaw
import Derived.Deep.RegionWith
import Derived.Deep.RegionHeld3
import Derived.Deep.QuietTactic
import Derived.BigQuiet
import Derived.WalkLawsBesides
import Derived.Laws.StructEq
import Derived.Test.YtdgjbpefbkgnpaaWEqStruct
namespace Go.Proofs.Ytdgjbpefbkgnpaa.WalkFnExactSameValue
open Go.RowKit Go.Proofs.YtdgjbpefbkgnpaaW.PrintWords Go.Proofs.YtdgjbpefbkgnpaaW.PrintLast Go.Proofs.YtdgjbpefbkgnpaaW.PrintMore Go.Proofs.Ytdgjbpefbkgnpaa.QFnExactSameValue Go.Proofs.Ytdgjbpefbkgnpaa.Law
set_option linter.unusedVariables false
set_option linter.unusedSimpArgs false
theorem frombits (x : Int) (w : World) : (callFunc 135 #[.int .u64 x]).run Try.prog w = .ok (.value (.float .f64 x.toNat)) w := by kernel_rfl
theorem real64 (x : Int) (w : World) : Calls Try.prog 109 #[.int .u64 x] w fun e w' => e = .returned (.float .f64 x.toNat) ∧ w' = w := by
  have hfb := frombits x
  go_enter Try.func109, Try.ntmps109
  go_wp2
  go_ret
  exact ⟨rfl, rfl⟩
theorem equal (x y : Int) (w : World) : Calls Try.prog 58 #[.int .u64 x, .int .u64 y] w fun e w' => e = .returned (.bool (Ieee.double.order x.toNat y.toNat == some .eq)) ∧ Drawn0 w w' := by
  go_enter Try.func58, Try.ntmps58
  go_wp2_with fail
  refine (real64 _ _).mono ?_
  rintro e w1 ⟨rfl, rfl⟩
  go_wp2_with fail
  refine (real64 _ _).mono ?_
  rintro e w2 ⟨rfl, rfl⟩
  go_wp2
  go_ret
  exact ⟨rfl, Drawn0.refl _⟩
theorem eqA (d : Nat) (w : World) (x0 y0 : Int) (x1 y1 : Int) (x2 y2 : ByteArray) (x3 y3 : Int) :
    (Op.equalIn (d + 2) 27 (.agg #[.int .i64 x0, .int .u64 x1, .string x2, .int .i64 x3]) (.agg #[.int .i64 y0, .int .u64 y1, .string y2, .int .i64 y3])).run Try.prog w = .ok (x0 == y0 && (x1 == y1 && (x2.toList == y2.toList && (x3 == y3)))) w := by
  refine eqA_of Try.underlying27 (by kernel_rfl) ?_
  refine eqf_cons (by rfl) (by go_simp; rfl) (by go_simp; rfl) (by go_simp) ?_
  refine eqf_cons (by rfl) (by go_simp; rfl) (by go_simp; rfl) (by go_simp) ?_
  refine eqf_cons (by rfl) (by go_simp; rfl) (by go_simp; rfl) (by go_simp) ?_
  exact eqf_last (by rfl) (by go_simp; rfl) (by go_simp; rfl) (by go_simp)
attribute [local go_sem high] eqA
def same (a0_0 a0_1 a0_3 a1_0 a1_1 a1_3 : Int) (a0_2 a1_2 : ByteArray) : Bool := if a0_0 = 2 ∧ a1_0 = 2 then (Ieee.double.order a0_1.toNat a1_1.toNat == some .eq) else (a0_0 == a1_0 && (a0_1 == a1_1 && (a0_2.toList == a1_2.toList && (a0_3 == a1_3))))
set_option maxHeartbeats 4000000 in
set_option maxRecDepth 100000 in
theorem sameValue (a0_0 a0_1 : Int) (a0_2 : ByteArray) (a0_3 : Int) (a1_0 a1_1 : Int) (a1_2 : ByteArray) (a1_3 : Int) (w : World) : Calls Try.prog 19 #[.agg #[.int .i64 a0_0, .int .u64 a0_1, .string a0_2, .int .i64 a0_3], .agg #[.int .i64 a1_0, .int .u64 a1_1, .string a1_2, .int .i64 a1_3]] w fun e w' => e = .returned (.bool (same a0_0 a0_1 a0_3 a1_0 a1_1 a1_3 a0_2 a1_2)) ∧ Below w.heap.size w w' := by
  have hu := Try.underlying27
  by_cases h : a0_0 = 2 ∧ a1_0 = 2
  · obtain ⟨rfl, rfl⟩ := h
    have hf : same 2 a0_1 a0_3 2 a1_1 a1_3 a0_2 a1_2 = (Ieee.double.order a0_1.toNat a1_1.toNat == some .eq) := by unfold same; rw [if_pos ⟨rfl, rfl⟩]
    have HF := Aside0.mk hf
    clear hf
    go_enter Try.func19, Try.ntmps19
    go_wp2_with fail
    repeat (go_quiet (fail); go_wp2_with fail)
    refine (equal _ _ _).mono ?_
    rintro e w1 ⟨rfl, hb⟩
    go_wp2
    go_ret
    exact ⟨by rw [HF.out]; rfl, below_step (by repeat (first | exact Below.refl _ _ | apply below_alloc | apply below_drew1 | apply pw_below_drewN)) hb.below⟩
  · have hf : same a0_0 a0_1 a0_3 a1_0 a1_1 a1_3 a0_2 a1_2 = (a0_0 == a1_0 && (a0_1 == a1_1 && (a0_2.toList == a1_2.toList && (a0_3 == a1_3)))) := by unfold same; rw [if_neg h]
    have HF := Aside0.mk hf
    clear hf
    by_cases h0 : a0_0 = 2
    · have h1 : ¬ a1_0 = 2 := fun e => h ⟨h0, e⟩
      have b0 : (a0_0 == 2) = true := beq_iff_eq.mpr h0
      have b1 : (a1_0 == 2) = false := beq_eq_false_iff_ne.mpr h1
      clear h h0 h1
      go_enter Try.func19, Try.ntmps19
      go_wp2
      repeat (go_quiet (fail); go_wp2)
      go_ret
      exact ⟨by rw [HF.out]; rfl, by repeat (first | exact Below.refl _ _ | apply below_alloc | apply below_drew1 | apply pw_below_drewN)⟩
    · have b0 : (a0_0 == 2) = false := beq_eq_false_iff_ne.mpr h0
      clear h h0
      go_enter Try.func19, Try.ntmps19
      go_wp2
      repeat (go_quiet (fail); go_wp2)
      go_ret
      exact ⟨by rw [HF.out]; rfl, by repeat (first | exact Below.refl _ _ | apply below_alloc | apply below_drew1 | apply pw_below_drewN)⟩
set_option maxHeartbeats 4000000 in
set_option maxRecDepth 100000 in
theorem w1 (k : Nat) (a0_0 a0_1 : Int) (a0_2 : ByteArray) (a0_3 : Int) (a1_0 a1_1 : Int) (a1_2 : ByteArray) (a1_3 : Int) (w : World) (s1 : Int) (h1 : laws_szValue.f a0_0 a0_1 a0_2 a0_3 1048576 = some s1) (n1 : s1 < 0) :
    Calls Try.prog 4 #[.agg #[.int .i64 a0_0, .int .u64 a0_1, .string a0_2, .int .i64 a0_3], .agg #[.int .i64 a1_0, .int .u64 a1_1, .string a1_2, .int .i64 a1_3]] w fun e w' => e = .returned (.bool true) ∧ Below w.heap.size w w' := by
  have hu45 := Try.underlying24; have hu48 := Try.underlying27
  have H1 := Aside0.mk h1; clear h1
  have m1 : decide (s1 < 0) = true := by simpa using n1
  have A0 := Aside0.mk (((At.start w).alloc #[.int .i64 a0_0, .int .u64 a0_1, .string a0_2, .int .i64 a0_3] 24).alloc #[.int .i64 a1_0, .int .u64 a1_1, .string a1_2, .int .i64 a1_3] 24)
  rw [show (w.alloc (.cells #[.int .i64 a0_0, .int .u64 a0_1, .string a0_2, .int .i64 a0_3] 24)).heap.size = w.heap.size + 1 by simp] at A0
  go_enter Try.func4, Try.ntmps4
  go_wp2_with fail
  refine (laws_szValue.calls _ _ _ _ _ s1 _ H1.out).mono ?_
  rintro e w1 ⟨rfl, hb⟩
  have A1 := Aside0.mk (A0.out.step hb); clear A0 hb; have z0 := A1.out.cell1; have z1 := A1.out.cell0
  go_wp2
  go_ret
  exact ⟨rfl, A1.out.below⟩
set_option maxHeartbeats 4000000 in
set_option maxRecDepth 100000 in
theorem w2 (k : Nat) (a0_0 a0_1 : Int) (a0_2 : ByteArray) (a0_3 : Int) (a1_0 a1_1 : Int) (a1_2 : ByteArray) (a1_3 : Int) (w : World) (s1 : Int) (h1 : laws_szValue.f a0_0 a0_1 a0_2 a0_3 1048576 = some s1) (n1 : 0 ≤ s1) (s2 : Int) (h2 : laws_szValue.f a1_0 a1_1 a1_2 a1_3 s1 = some s2) (n2 : s2 < 0) :
    Calls Try.prog 4 #[.agg #[.int .i64 a0_0, .int .u64 a0_1, .string a0_2, .int .i64 a0_3], .agg #[.int .i64 a1_0, .int .u64 a1_1, .string a1_2, .int .i64 a1_3]] w fun e w' => e = .returned (.bool true) ∧ Below w.heap.size w w' := by
  have hu45 := Try.underlying24; have hu48 := Try.underlying27
  have H1 := Aside0.mk h1; clear h1; have H2 := Aside0.mk h2; clear h2
  have m1 : decide (s1 < 0) = false := by simp; omega
  have m2 : decide (s2 < 0) = true := by simpa using n2
  have A0 := Aside0.mk (((At.start w).alloc #[.int .i64 a0_0, .int .u64 a0_1, .string a0_2, .int .i64 a0_3] 24).alloc #[.int .i64 a1_0, .int .u64 a1_1, .string a1_2, .int .i64 a1_3] 24)
  rw [show (w.alloc (.cells #[.int .i64 a0_0, .int .u64 a0_1, .string a0_2, .int .i64 a0_3] 24)).heap.size = w.heap.size + 1 by simp] at A0
  go_enter Try.func4, Try.ntmps4
  go_wp2_with fail
  refine (laws_szValue.calls _ _ _ _ _ s1 _ H1.out).mono ?_
  rintro e w1 ⟨rfl, hb⟩
  have A1 := Aside0.mk (A0.out.step hb); clear A0 hb; have z0 := A1.out.cell1; have z1 := A1.out.cell0
  go_wp2_with fail
  refine (laws_szValue.calls _ _ _ _ _ s2 _ H2.out).mono ?_
  rintro e w2 ⟨rfl, hb⟩
  have A2 := Aside0.mk (A1.out.step hb); clear A1 hb z0 z1; have z0 := A2.out.cell1; have z1 := A2.out.cell0
  go_wp2
  go_ret
  exact ⟨rfl, A2.out.below⟩
set_option maxHeartbeats 4000000 in
set_option maxRecDepth 100000 in
theorem w3 (k : Nat) (a0_0 a0_1 : Int) (a0_2 : ByteArray) (a0_3 : Int) (a1_0 a1_1 : Int) (a1_2 : ByteArray) (a1_3 : Int) (w : World) (s1 : Int) (h1 : laws_szValue.f a0_0 a0_1 a0_2 a0_3 1048576 = some s1) (n1 : 0 ≤ s1) (s2 : Int) (h2 : laws_szValue.f a1_0 a1_1 a1_2 a1_3 s1 = some s2) (n2 : 0 ≤ s2) (r : Bool) (h5 : spec_SameValue.f k a0_0 a0_1 a0_2 a0_3 a1_0 a1_1 a1_2 a1_3 = some r) (h6 : same a0_0 a0_1 a0_3 a1_0 a1_1 a1_3 a0_2 a1_2 = r) :
    Calls Try.prog 4 #[.agg #[.int .i64 a0_0, .int .u64 a0_1, .string a0_2, .int .i64 a0_3], .agg #[.int .i64 a1_0, .int .u64 a1_1, .string a1_2, .int .i64 a1_3]] w fun e w' => e = .returned (.bool true) ∧ Below w.heap.size w w' := by
  have hu45 := Try.underlying24; have hu48 := Try.underlying27
  have H1 := Aside0.mk h1; clear h1; have H2 := Aside0.mk h2; clear h2; have H5 := Aside0.mk h5; clear h5; have H6 := Aside0.mk h6; clear h6
  have m1 : decide (s1 < 0) = false := by simp; omega
  have m2 : decide (s2 < 0) = false := by simp; omega
  have H3 := Aside0.mk (show laws_toValue.f a0_0 a0_1 a0_2 a0_3 = some (a0_0, a0_1, a0_2, a0_3) from rfl); have H4 := Aside0.mk (show laws_toValue.f a1_0 a1_1 a1_2 a1_3 = some (a1_0, a1_1, a1_2, a1_3) from rfl)
  have A0 := Aside0.mk (((At.start w).alloc #[.int .i64 a0_0, .int .u64 a0_1, .string a0_2, .int .i64 a0_3] 24).alloc #[.int .i64 a1_0, .int .u64 a1_1, .string a1_2, .int .i64 a1_3] 24)
  rw [show (w.alloc (.cells #[.int .i64 a0_0, .int .u64 a0_1, .string a0_2, .int .i64 a0_3] 24)).heap.size = w.heap.size + 1 by simp] at A0
  go_enter Try.func4, Try.ntmps4
  go_wp2_with fail
  refine (laws_szValue.calls _ _ _ _ _ s1 _ H1.out).mono ?_
  rintro e w1 ⟨rfl, hb⟩
  have A1 := Aside0.mk (A0.out.step hb); clear A0 hb; have z0 := A1.out.cell1; have z1 := A1.out.cell0
  go_wp2_with fail
  refine (laws_szValue.calls _ _ _ _ _ s2 _ H2.out).mono ?_
  rintro e w2 ⟨rfl, hb⟩
  have A2 := Aside0.mk (A1.out.step hb); clear A1 hb z0 z1; have z0 := A2.out.cell1; have z1 := A2.out.cell0
  go_wp2_with fail
  clear z0 z1
  go_region_held3 (fun W => (∀ o, W.cell? ⟨w.heap.size, o, none⟩ = (#[.int .i64 a0_0, .int .u64 a0_1, .string a0_2, .int .i64 a0_3] : Array Value)[o]?) ∧ (∀ o, W.cell? ⟨w.heap.size + 1, o, none⟩ = (#[.int .i64 a1_0, .int .u64 a1_1, .string a1_2, .int .i64 a1_3] : Array Value)[o]?) ∧ At w W [(w.heap.size + 1, #[.int .i64 a1_0, .int .u64 a1_1, .string a1_2, .int .i64 a1_3], 24), (w.heap.size, #[.int .i64 a0_0, .int .u64 a0_1, .string a0_2, .int .i64 a0_3], 24)]) (first | exact ⟨A2.out.drew.cell1, A2.out.drew.cell0, A2.out.drew⟩ | exact ⟨A5.out.cell1, A5.out.cell0, A5.out⟩ | exact ⟨A4.out.cell1, A4.out.cell0, A4.out⟩ | exact ⟨A3.out.cell1, A3.out.cell0, A3.out⟩) (first | (go_at_call_of 16 a0_2; refine (laws_toValue.calls _ _ _ _ _ _ _ _ _ H3.out).mono ?_; rintro e wA3 ⟨rfl, hb⟩; have A3 := Aside0.mk (A2.out.drew.step hb); clear hb) | (go_at_call_of 16 a1_2; refine (laws_toValue.calls _ _ _ _ _ _ _ _ _ H4.out).mono ?_; rintro e wA4 ⟨rfl, hb⟩; have A4 := Aside0.mk (A3.out.step hb); clear hb) | (go_at_call 18; refine (spec_SameValue.calls k _ _ _ _ _ _ _ _ r _ H5.out).mono ?_; rintro e w5 ⟨rfl, hb⟩; have A5 := Aside0.mk (A4.out.step hb); clear hb))
  clear A2 A3 A4; have z0 := A5.out.cell1; have z1 := A5.out.cell0
  go_wp2_with fail
  clear z0 z1
  go_region_held3 (fun W => (∀ o, W.cell? ⟨w.heap.size, o, none⟩ = (#[.int .i64 a0_0, .int .u64 a0_1, .string a0_2, .int .i64 a0_3] : Array Value)[o]?) ∧ (∀ o, W.cell? ⟨w.heap.size + 1, o, none⟩ = (#[.int .i64 a1_0, .int .u64 a1_1, .string a1_2, .int .i64 a1_3] : Array Value)[o]?) ∧ At w W [(w.heap.size + 1, #[.int .i64 a1_0, .int .u64 a1_1, .string a1_2, .int .i64 a1_3], 24), (w.heap.size, #[.int .i64 a0_0, .int .u64 a0_1, .string a0_2, .int .i64 a0_3], 24)]) (first | exact ⟨A5.out.drew.cell1, A5.out.drew.cell0, A5.out.drew⟩ | exact ⟨A8.out.cell1, A8.out.cell0, A8.out⟩ | exact ⟨A7.out.cell1, A7.out.cell0, A7.out⟩ | exact ⟨A6.out.cell1, A6.out.cell0, A6.out⟩) (first | (go_at_call_of 16 a0_2; refine (laws_toValue.calls _ _ _ _ _ _ _ _ _ H3.out).mono ?_; rintro e wA6 ⟨rfl, hb⟩; have A6 := Aside0.mk (A5.out.drew.step hb); clear hb) | (go_at_call_of 16 a1_2; refine (laws_toValue.calls _ _ _ _ _ _ _ _ _ H4.out).mono ?_; rintro e wA7 ⟨rfl, hb⟩; have A7 := Aside0.mk (A6.out.step hb); clear hb) | (go_at_call 19; refine (sameValue _ _ _ _ _ _ _ _ _).mono ?_; rintro e w8 ⟨rfl, hb⟩; rw [H6.out]; have A8 := Aside0.mk (A7.out.step hb); clear hb))
  clear A5 A6 A7; have z0 := A8.out.cell1; have z1 := A8.out.cell0
  have hrr : (r != r) = false := by simp
  go_wp2
  go_ret
  exact ⟨rfl, A8.out.below⟩
end Go.Proofs.Ytdgjbpefbkgnpaa.WalkFnExactSameValue
