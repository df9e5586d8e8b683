/- The walk of the law 'FnExactSameOutcome': where what it calls answers as told, it returns true. -/
import Derived.Test.YtdgjbpefbkgnpaaQFnExactSameOutcomex1
import Derived.Test.YtdgjbpefbkgnpaaQFnExactSameOutcomex2
import Derived.Test.YtdgjbpefbkgnpaaLaw
import Derived.Deep.RegionWith
import Derived.Deep.RegionHeld3
namespace Go.Proofs.Ytdgjbpefbkgnpaa.WalkFnExactSameOutcome
open Go.RowKit Go.Proofs.YtdgjbpefbkgnpaaW.PrintWords Go.Proofs.YtdgjbpefbkgnpaaW.PrintLast Go.Proofs.YtdgjbpefbkgnpaaW.PrintMore Go.Proofs.Ytdgjbpefbkgnpaa.QFnExactSameOutcome Go.Proofs.Ytdgjbpefbkgnpaa.Law
set_option linter.unusedVariables false
set_option linter.unusedSimpArgs false
set_option maxHeartbeats 4000000 in
set_option maxRecDepth 100000 in
theorem w1 (k : Nat) (a0_0 : Int) (a0_1 : ByteArray) (A0_2 : Option Addr) (c0_2 : Nat) (l0_2 : List ByteArray) (a0_3 : Int) (a1_0 : Int) (a1_1 : ByteArray) (A1_2 : Option Addr) (c1_2 : Nat) (l1_2 : List ByteArray) (a1_3 : Int) (w : World) (hr0_2 : Kd.C Kd.string w A0_2 l0_2.length l0_2) (hc0_2 : l0_2.length ≤ c0_2) (hr1_2 : Kd.C Kd.string w A1_2 l1_2.length l1_2) (hc1_2 : l1_2.length ≤ c1_2) (s1 : Int) (h1 : laws_szOutcome.f k a0_0 a0_1 l0_2 a0_3 1048576 = some s1) (n1 : s1 < 0) :
    Calls Try.prog 8 #[.agg #[.int .i64 a0_0, .string a0_1, .slice A0_2 l0_2.length c0_2, .int .i64 a0_3], .agg #[.int .i64 a1_0, .string a1_1, .slice A1_2 l1_2.length c1_2, .int .i64 a1_3]] w fun e w' => e = .returned (.bool true) ∧ Below w.heap.size w w' := by
  have hu45 := Try.underlying45; have hu48 := Try.underlying48
  have H1 := Aside0.mk h1
  have HR0 := Aside0.mk hr0_2; have HC0 := Aside0.mk hc0_2; have HR1 := Aside0.mk hr1_2; have HC1 := Aside0.mk hc1_2
  clear h1 hr0_2 hc0_2 hr1_2 hc1_2
  have m1 : decide (s1 < 0) = true := by simpa using n1
  have A0 := Aside0.mk (((At.start w).alloc #[.int .i64 a0_0, .string a0_1, .slice A0_2 l0_2.length c0_2, .int .i64 a0_3] 45).alloc #[.int .i64 a1_0, .string a1_1, .slice A1_2 l1_2.length c1_2, .int .i64 a1_3] 45)
  rw [show (w.alloc (.cells #[.int .i64 a0_0, .string a0_1, .slice A0_2 l0_2.length c0_2, .int .i64 a0_3] 45)).heap.size = w.heap.size + 1 by simp] at A0
  go_enter Try.func8, Try.ntmps8
  go_wp2_with fail
  refine (laws_szOutcome.calls k _ _ _ _ l0_2 _ _ s1 _ (A0.out.reads HR0.out) HC0.out H1.out).mono ?_
  rintro e w1 ⟨rfl, hb⟩
  have A1 := Aside0.mk (A0.out.step hb); clear A0 hb; have z0 := A1.out.cell1; have z1 := A1.out.cell0
  go_wp2
  go_ret
  exact ⟨rfl, A1.out.below⟩
set_option maxHeartbeats 4000000 in
set_option maxRecDepth 100000 in
theorem w2 (k : Nat) (a0_0 : Int) (a0_1 : ByteArray) (A0_2 : Option Addr) (c0_2 : Nat) (l0_2 : List ByteArray) (a0_3 : Int) (a1_0 : Int) (a1_1 : ByteArray) (A1_2 : Option Addr) (c1_2 : Nat) (l1_2 : List ByteArray) (a1_3 : Int) (w : World) (hr0_2 : Kd.C Kd.string w A0_2 l0_2.length l0_2) (hc0_2 : l0_2.length ≤ c0_2) (hr1_2 : Kd.C Kd.string w A1_2 l1_2.length l1_2) (hc1_2 : l1_2.length ≤ c1_2) (s1 : Int) (h1 : laws_szOutcome.f k a0_0 a0_1 l0_2 a0_3 1048576 = some s1) (n1 : 0 ≤ s1) (s2 : Int) (h2 : laws_szOutcome.f k a1_0 a1_1 l1_2 a1_3 s1 = some s2) (n2 : s2 < 0) :
    Calls Try.prog 8 #[.agg #[.int .i64 a0_0, .string a0_1, .slice A0_2 l0_2.length c0_2, .int .i64 a0_3], .agg #[.int .i64 a1_0, .string a1_1, .slice A1_2 l1_2.length c1_2, .int .i64 a1_3]] w fun e w' => e = .returned (.bool true) ∧ Below w.heap.size w w' := by
  have hu45 := Try.underlying45; have hu48 := Try.underlying48
  have H1 := Aside0.mk h1; have H2 := Aside0.mk h2
  have HR0 := Aside0.mk hr0_2; have HC0 := Aside0.mk hc0_2; have HR1 := Aside0.mk hr1_2; have HC1 := Aside0.mk hc1_2
  clear h1 h2 hr0_2 hc0_2 hr1_2 hc1_2
  have m1 : decide (s1 < 0) = false := by simp; omega
  have m2 : decide (s2 < 0) = true := by simpa using n2
  have A0 := Aside0.mk (((At.start w).alloc #[.int .i64 a0_0, .string a0_1, .slice A0_2 l0_2.length c0_2, .int .i64 a0_3] 45).alloc #[.int .i64 a1_0, .string a1_1, .slice A1_2 l1_2.length c1_2, .int .i64 a1_3] 45)
  rw [show (w.alloc (.cells #[.int .i64 a0_0, .string a0_1, .slice A0_2 l0_2.length c0_2, .int .i64 a0_3] 45)).heap.size = w.heap.size + 1 by simp] at A0
  go_enter Try.func8, Try.ntmps8
  go_wp2_with fail
  refine (laws_szOutcome.calls k _ _ _ _ l0_2 _ _ s1 _ (A0.out.reads HR0.out) HC0.out H1.out).mono ?_
  rintro e w1 ⟨rfl, hb⟩
  have A1 := Aside0.mk (A0.out.step hb); clear A0 hb; have z0 := A1.out.cell1; have z1 := A1.out.cell0
  go_wp2_with fail
  refine (laws_szOutcome.calls k _ _ _ _ l1_2 _ _ s2 _ (A1.out.reads HR1.out) HC1.out H2.out).mono ?_
  rintro e w2 ⟨rfl, hb⟩
  have A2 := Aside0.mk (A1.out.step hb); clear A1 hb z0 z1; have z0 := A2.out.cell1; have z1 := A2.out.cell0
  go_wp2
  go_ret
  exact ⟨rfl, A2.out.below⟩
set_option maxHeartbeats 4000000 in
set_option maxRecDepth 100000 in
theorem w3 (k : Nat) (a0_0 : Int) (a0_1 : ByteArray) (A0_2 : Option Addr) (c0_2 : Nat) (l0_2 : List ByteArray) (a0_3 : Int) (a1_0 : Int) (a1_1 : ByteArray) (A1_2 : Option Addr) (c1_2 : Nat) (l1_2 : List ByteArray) (a1_3 : Int) (w : World) (hr0_2 : Kd.C Kd.string w A0_2 l0_2.length l0_2) (hc0_2 : l0_2.length ≤ c0_2) (hr1_2 : Kd.C Kd.string w A1_2 l1_2.length l1_2) (hc1_2 : l1_2.length ≤ c1_2) (s1 : Int) (h1 : laws_szOutcome.f k a0_0 a0_1 l0_2 a0_3 1048576 = some s1) (n1 : 0 ≤ s1) (s2 : Int) (h2 : laws_szOutcome.f k a1_0 a1_1 l1_2 a1_3 s1 = some s2) (n2 : 0 ≤ s2) (r : Bool) (h3 : laws_toOutcome.f k a0_0 a0_1 l0_2 a0_3 = some (a0_0, a0_1, l0_2, a0_3)) (h4 : laws_toOutcome.f k a1_0 a1_1 l1_2 a1_3 = some (a1_0, a1_1, l1_2, a1_3)) (h5 : spec_SameOutcome.f k a0_0 a0_1 l0_2 a0_3 a1_0 a1_1 l1_2 a1_3 = some r) (h6 : impl_SameOutcome.f k a0_0 a0_1 l0_2 a0_3 a1_0 a1_1 l1_2 a1_3 = some r) (h7 : laws_eqOutcome.f k a0_0 a0_1 l0_2 a0_3 a0_0 a0_1 l0_2 a0_3 = some true) (h8 : laws_eqOutcome.f k a1_0 a1_1 l1_2 a1_3 a1_0 a1_1 l1_2 a1_3 = some true) :
    Calls Try.prog 8 #[.agg #[.int .i64 a0_0, .string a0_1, .slice A0_2 l0_2.length c0_2, .int .i64 a0_3], .agg #[.int .i64 a1_0, .string a1_1, .slice A1_2 l1_2.length c1_2, .int .i64 a1_3]] w fun e w' => e = .returned (.bool true) ∧ Below w.heap.size w w' := by
  have hu45 := Try.underlying45; have hu48 := Try.underlying48
  have H1 := Aside0.mk h1; have H2 := Aside0.mk h2; have H3 := Aside0.mk h3; have H4 := Aside0.mk h4; have H5 := Aside0.mk h5; have H6 := Aside0.mk h6; have H7 := Aside0.mk h7; have H8 := Aside0.mk h8
  have HR0 := Aside0.mk hr0_2; have HC0 := Aside0.mk hc0_2; have HR1 := Aside0.mk hr1_2; have HC1 := Aside0.mk hc1_2
  clear h1 h2 h3 h4 h5 h6 h7 h8 hr0_2 hc0_2 hr1_2 hc1_2
  have m1 : decide (s1 < 0) = false := by simp; omega
  have m2 : decide (s2 < 0) = false := by simp; omega
  have A0 := Aside0.mk (((At.start w).alloc #[.int .i64 a0_0, .string a0_1, .slice A0_2 l0_2.length c0_2, .int .i64 a0_3] 45).alloc #[.int .i64 a1_0, .string a1_1, .slice A1_2 l1_2.length c1_2, .int .i64 a1_3] 45)
  rw [show (w.alloc (.cells #[.int .i64 a0_0, .string a0_1, .slice A0_2 l0_2.length c0_2, .int .i64 a0_3] 45)).heap.size = w.heap.size + 1 by simp] at A0
  go_enter Try.func8, Try.ntmps8
  go_wp2_with fail
  refine (laws_szOutcome.calls k _ _ _ _ l0_2 _ _ s1 _ (A0.out.reads HR0.out) HC0.out H1.out).mono ?_
  rintro e w1 ⟨rfl, hb⟩
  have A1 := Aside0.mk (A0.out.step hb); clear A0 hb; have z0 := A1.out.cell1; have z1 := A1.out.cell0
  go_wp2_with fail
  refine (laws_szOutcome.calls k _ _ _ _ l1_2 _ _ s2 _ (A1.out.reads HR1.out) HC1.out H2.out).mono ?_
  rintro e w2 ⟨rfl, hb⟩
  have A2 := Aside0.mk (A1.out.step hb); clear A1 hb z0 z1; have z0 := A2.out.cell1; have z1 := A2.out.cell0
  go_wp2_with fail
  clear z0 z1
  go_region_held3 (fun W => (∀ o, W.cell? ⟨w.heap.size, o, none⟩ = (#[.int .i64 a0_0, .string a0_1, .slice A0_2 l0_2.length c0_2, .int .i64 a0_3] : Array Value)[o]?) ∧ (∀ o, W.cell? ⟨w.heap.size + 1, o, none⟩ = (#[.int .i64 a1_0, .string a1_1, .slice A1_2 l1_2.length c1_2, .int .i64 a1_3] : Array Value)[o]?) ∧ At w W [(w.heap.size + 1, #[.int .i64 a1_0, .string a1_1, .slice A1_2 l1_2.length c1_2, .int .i64 a1_3], 45), (w.heap.size, #[.int .i64 a0_0, .string a0_1, .slice A0_2 l0_2.length c0_2, .int .i64 a0_3], 45)]) (first | exact ⟨A2.out.drew.cell1, A2.out.drew.cell0, A2.out.drew⟩ | exact ⟨A5.out.cell1, A5.out.cell0, A5.out⟩ | exact ⟨A4.out.cell1, A4.out.cell0, A4.out⟩ | exact ⟨A3.out.cell1, A3.out.cell0, A3.out⟩) (first | (go_at_call_of 29 l0_2; refine (laws_toOutcome.calls k _ _ _ _ l0_2 _ _ _ _ _ _ ?s1 HC0.out H3.out).mono ?_; (case s1 => exact A2.out.drew.reads HR0.out); rintro e w3 ⟨v, rfl, ho, hb⟩; have A3 := Aside0.mk (A2.out.drew.step hb); obtain ⟨X3, y3, rfl, hl, hk⟩ := Kd.R_reads ho; have L3 := Aside0.mk hl; have R3 := Aside0.mk hk; clear hb ho hl hk) | (go_at_call_of 29 l1_2; refine (laws_toOutcome.calls k _ _ _ _ l1_2 _ _ _ _ _ _ ?s1 HC1.out H4.out).mono ?_; (case s1 => exact A3.out.reads HR1.out); rintro e w4 ⟨v, rfl, ho, hb⟩; have A4 := Aside0.mk (A3.out.step hb); have R32 := Aside0.mk (Kd.C_below R3.out (hb)); clear R3; have R3 := R32; clear R32; obtain ⟨X4, y4, rfl, hl, hk⟩ := Kd.R_reads ho; have L4 := Aside0.mk hl; have R4 := Aside0.mk hk; clear hb ho hl hk) | (go_at_call 32; refine (spec_SameOutcome.calls k _ _ _ _ l0_2 _ _ _ _ _ l1_2 _ r _ R3.out L3.out R4.out L4.out H5.out).mono ?_; rintro e w5 ⟨rfl, hb⟩; have A5 := Aside0.mk (A4.out.step hb); clear hb R3 R4 L3 L4))
  clear A2 A3 A4; have z0 := A5.out.cell1; have z1 := A5.out.cell0
  go_wp2_with fail
  refine (laws_toOutcome.calls k _ _ _ _ l0_2 _ _ _ _ _ _ (A5.out.reads HR0.out) HC0.out H3.out).mono ?_
  rintro e w6 ⟨v, rfl, ho, hb⟩
  have A6 := Aside0.mk (A5.out.step hb)
  obtain ⟨X6, y6, rfl, hl, hk⟩ := Kd.R_reads ho; have L6 := Aside0.mk hl; have R6 := Aside0.mk hk; clear hb ho hl hk A5 z0 z1
  have B6 := Aside0.mk (A6.out.alloc #[.int .i64 a0_0, .string a0_1, .slice X6 l0_2.length y6, .int .i64 a0_3] 48); clear A6
  have z0 := B6.out.cell2; have z1 := B6.out.cell1; have z2 := B6.out.cell0
  have S6 := Aside0.mk (Kd.C_below R6.out (below_alloc (Below.refl _ _) (.cells #[.int .i64 a0_0, .string a0_1, .slice X6 l0_2.length y6, .int .i64 a0_3] 48))); clear R6
  go_wp2_with fail
  refine (laws_toOutcome.calls k _ _ _ _ l1_2 _ _ _ _ _ _ (B6.out.reads HR1.out) HC1.out H4.out).mono ?_
  rintro e w7 ⟨v, rfl, ho, hb⟩
  have A7 := Aside0.mk (B6.out.step hb)
  have S62 := Aside0.mk (Kd.C_below S6.out hb); clear S6; have S6 := S62; clear S62
  obtain ⟨X7, y7, rfl, hl, hk⟩ := Kd.R_reads ho; have L7 := Aside0.mk hl; have R7 := Aside0.mk hk; clear hb ho hl hk B6 z0 z1 z2
  have B7 := Aside0.mk (A7.out.alloc #[.int .i64 a1_0, .string a1_1, .slice X7 l1_2.length y7, .int .i64 a1_3] 48); clear A7
  have z0 := B7.out.cell3; have z1 := B7.out.cell2; have z2 := B7.out.cell1; have z3 := B7.out.cell0
  have T6 := Aside0.mk (Kd.C_below S6.out (below_alloc (Below.refl _ _) (.cells #[.int .i64 a1_0, .string a1_1, .slice X7 l1_2.length y7, .int .i64 a1_3] 48))); have T7 := Aside0.mk (Kd.C_below R7.out (below_alloc (Below.refl _ _) (.cells #[.int .i64 a1_0, .string a1_1, .slice X7 l1_2.length y7, .int .i64 a1_3] 48))); clear S6 R7
  skip
  go_wp2_with fail
  refine (impl_SameOutcome.calls k _ _ _ _ l0_2 _ _ _ _ _ l1_2 _ r _ T6.out L6.out T7.out L7.out H6.out).mono ?_
  rintro e w8 ⟨rfl, hb⟩
  have A8 := Aside0.mk (B7.out.step hb); have U6 := Aside0.mk (Kd.C_below T6.out hb); have U7 := Aside0.mk (Kd.C_below T7.out hb); clear hb B7 T6 T7 z0 z1 z2 z3
  have z0 := A8.out.cell3; have z1 := A8.out.cell2; have z2 := A8.out.cell1; have z3 := A8.out.cell0
  have hrr : (r != r) = false := by simp
  go_wp2_with fail
  clear z0 z1 z2 z3
  go_region_held3 (fun W => (∀ o, W.cell? ⟨w.heap.size, o, none⟩ = (#[.int .i64 a0_0, .string a0_1, .slice A0_2 l0_2.length c0_2, .int .i64 a0_3] : Array Value)[o]?) ∧ (∀ o, W.cell? ⟨w.heap.size + 1, o, none⟩ = (#[.int .i64 a1_0, .string a1_1, .slice A1_2 l1_2.length c1_2, .int .i64 a1_3] : Array Value)[o]?) ∧ (∀ o, W.cell? ⟨w6.heap.size, o, none⟩ = (#[.int .i64 a0_0, .string a0_1, .slice X6 l0_2.length y6, .int .i64 a0_3] : Array Value)[o]?) ∧ (∀ o, W.cell? ⟨w7.heap.size, o, none⟩ = (#[.int .i64 a1_0, .string a1_1, .slice X7 l1_2.length y7, .int .i64 a1_3] : Array Value)[o]?) ∧ At w W [(w7.heap.size, #[.int .i64 a1_0, .string a1_1, .slice X7 l1_2.length y7, .int .i64 a1_3], 48), (w6.heap.size, #[.int .i64 a0_0, .string a0_1, .slice X6 l0_2.length y6, .int .i64 a0_3], 48), (w.heap.size + 1, #[.int .i64 a1_0, .string a1_1, .slice A1_2 l1_2.length c1_2, .int .i64 a1_3], 45), (w.heap.size, #[.int .i64 a0_0, .string a0_1, .slice A0_2 l0_2.length c0_2, .int .i64 a0_3], 45)]) (first | exact ⟨A8.out.drew.cell3, A8.out.drew.cell2, A8.out.drew.cell1, A8.out.drew.cell0, A8.out.drew⟩ | exact ⟨A10.out.cell3, A10.out.cell2, A10.out.cell1, A10.out.cell0, A10.out⟩ | exact ⟨A9.out.cell3, A9.out.cell2, A9.out.cell1, A9.out.cell0, A9.out⟩) (first | (go_at_call_of 29 l0_2; refine (laws_toOutcome.calls k _ _ _ _ l0_2 _ _ _ _ _ _ ?s1 HC0.out H3.out).mono ?_; (case s1 => exact A8.out.drew.reads HR0.out); rintro e wm0 ⟨v, rfl, ho, hb⟩; have A9 := Aside0.mk (A8.out.drew.step hb); have U62 := Aside0.mk (Kd.C_below U6.out (below_step (below_drew1 (Below.refl _ _)) hb)); clear U6; have U6 := U62; clear U62; have U72 := Aside0.mk (Kd.C_below U7.out (below_step (below_drew1 (Below.refl _ _)) hb)); clear U7; have U7 := U72; clear U72; obtain ⟨Xe0, ye0, rfl, hl, hk⟩ := Kd.R_reads ho; have Le0 := Aside0.mk hl; have Re0 := Aside0.mk hk; clear hb ho hl hk) | (go_at_call 31; refine (laws_eqOutcome.calls k _ _ _ _ l0_2 _ _ _ _ _ l0_2 _ true _ U6.out L6.out Re0.out Le0.out H7.out).mono ?_; rintro e wo0 ⟨rfl, hb⟩; have A10 := Aside0.mk (A9.out.step hb); have U72 := Aside0.mk (Kd.C_below U7.out hb); clear U7; have U7 := U72; clear U72; clear hb))
  clear A8 A9; have z0 := A10.out.cell3; have z1 := A10.out.cell2; have z2 := A10.out.cell1; have z3 := A10.out.cell0
  go_wp2_with fail
  clear z0 z1 z2 z3
  go_region_held3 (fun W => (∀ o, W.cell? ⟨w.heap.size, o, none⟩ = (#[.int .i64 a0_0, .string a0_1, .slice A0_2 l0_2.length c0_2, .int .i64 a0_3] : Array Value)[o]?) ∧ (∀ o, W.cell? ⟨w.heap.size + 1, o, none⟩ = (#[.int .i64 a1_0, .string a1_1, .slice A1_2 l1_2.length c1_2, .int .i64 a1_3] : Array Value)[o]?) ∧ (∀ o, W.cell? ⟨w6.heap.size, o, none⟩ = (#[.int .i64 a0_0, .string a0_1, .slice X6 l0_2.length y6, .int .i64 a0_3] : Array Value)[o]?) ∧ (∀ o, W.cell? ⟨w7.heap.size, o, none⟩ = (#[.int .i64 a1_0, .string a1_1, .slice X7 l1_2.length y7, .int .i64 a1_3] : Array Value)[o]?) ∧ At w W [(w7.heap.size, #[.int .i64 a1_0, .string a1_1, .slice X7 l1_2.length y7, .int .i64 a1_3], 48), (w6.heap.size, #[.int .i64 a0_0, .string a0_1, .slice X6 l0_2.length y6, .int .i64 a0_3], 48), (w.heap.size + 1, #[.int .i64 a1_0, .string a1_1, .slice A1_2 l1_2.length c1_2, .int .i64 a1_3], 45), (w.heap.size, #[.int .i64 a0_0, .string a0_1, .slice A0_2 l0_2.length c0_2, .int .i64 a0_3], 45)]) (first | exact ⟨A10.out.drew.cell3, A10.out.drew.cell2, A10.out.drew.cell1, A10.out.drew.cell0, A10.out.drew⟩ | exact ⟨A12.out.cell3, A12.out.cell2, A12.out.cell1, A12.out.cell0, A12.out⟩ | exact ⟨A11.out.cell3, A11.out.cell2, A11.out.cell1, A11.out.cell0, A11.out⟩) (first | (go_at_call_of 29 l1_2; refine (laws_toOutcome.calls k _ _ _ _ l1_2 _ _ _ _ _ _ ?s1 HC1.out H4.out).mono ?_; (case s1 => exact A10.out.drew.reads HR1.out); rintro e wm1 ⟨v, rfl, ho, hb⟩; have A11 := Aside0.mk (A10.out.drew.step hb); have U72 := Aside0.mk (Kd.C_below U7.out (below_step (below_drew1 (Below.refl _ _)) hb)); clear U7; have U7 := U72; clear U72; obtain ⟨Xe1, ye1, rfl, hl, hk⟩ := Kd.R_reads ho; have Le1 := Aside0.mk hl; have Re1 := Aside0.mk hk; clear hb ho hl hk) | (go_at_call 31; refine (laws_eqOutcome.calls k _ _ _ _ l1_2 _ _ _ _ _ l1_2 _ true _ U7.out L7.out Re1.out Le1.out H8.out).mono ?_; rintro e wo1 ⟨rfl, hb⟩; have A12 := Aside0.mk (A11.out.step hb); clear hb))
  clear A10 A11; have z0 := A12.out.cell3; have z1 := A12.out.cell2; have z2 := A12.out.cell1; have z3 := A12.out.cell0
  go_wp2
  go_ret
  exact ⟨rfl, A12.out.below⟩
end Go.Proofs.Ytdgjbpefbkgnpaa.WalkFnExactSameOutcome
