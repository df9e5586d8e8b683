/- Part 21 of the proof: general lemmas, contracts of functions, walks. No condition of its own. -/
import Derived.Deep.DeepCutAuto
import Derived.ProofKit
import Derived.OpenShut
import Derived.ChangeOld
import Derived.ChangeShapes
import Derived.WideShapes
import Derived.ChangeArms
import Derived.DataReads
import Derived.DataElems
import Derived.Test.YtokhgodcamhibaaBd20
import Derived.Test.YtokhgodcamhibaaBd14
import Derived.Test.YtokhgodcamhibaaBd15
import Derived.Test.YtokhgodcamhibaaBd1
section
namespace Go.Proofs.Ytokhgodcamhibaa.Dob
open Go.RowKit Go.Proofs.YtokhgodcamhibaaW.PrintWords Go.Proofs.YtokhgodcamhibaaW.PrintLast Go.Proofs.YtokhgodcamhibaaW.PrintMore Go.Proofs.Ytokhgodcamhibaa.Law Go.Proofs.Ytokhgodcamhibaa.Fl Go.Proofs.Ytokhgodcamhibaa.FlI Go.Proofs.Ytokhgodcamhibaa.Num Go.Proofs.Ytokhgodcamhibaa.QFnExactDoBinary Go.Proofs.Ytokhgodcamhibaa Go.Proofs.Ytokhgodcamhibaa.Steps Ieee
set_option linter.unusedVariables false
set_option linter.unusedSimpArgs false
theorem fuel : ∃ k : Nat, 20000 ≤ k := ⟨20000, Nat.le_refl _⟩
theorem boolS (b : Bool) (w : World) : Calls Try.prog 57 #[.bool b] w fun e w' => e = .returned (.agg #[.int .i64 1, .int .u64 (bn b), .string (⟨#[]⟩ : ByteArray), .int .i64 0]) ∧ Below w.heap.size w w' := by
  refine (spec_l17Bool.calls b 1 (bn b) (⟨#[]⟩ : ByteArray) 0 w (by cases b <;> rfl)).mono ?_
  rintro e w1 ⟨rfl, hb⟩
  exact ⟨rfl, by first | exact hb | exact hb.below⟩
theorem numS (x : Int) (w : World) : Calls Try.prog 61 #[.int .u64 x] w fun e w' => e = .returned (.agg #[.int .i64 2, .int .u64 x, .string (⟨#[]⟩ : ByteArray), .int .i64 0]) ∧ Below w.heap.size w w' := by
  refine (spec_l17Number.calls x _ _ _ _ w rfl).mono ?_
  rintro e w1 ⟨rfl, hb⟩
  exact ⟨rfl, by first | exact hb | exact hb.below⟩
theorem ordCS (op : Int) (l s n : Bool) (w : World) : Calls Try.prog 60 #[.int .i64 op, .bool l, .bool s, .bool n] w fun e w' => e = .returned (.agg #[.int .i64 1, .int .u64 (bn (ordS op l s n)), .string (⟨#[]⟩ : ByteArray), .int .i64 0]) ∧ Below w.heap.size w w' := by
  refine (spec_l17Order.calls op l s n _ _ _ _ w (specOrd op l s n)).mono ?_
  rintro e w1 ⟨rfl, hb⟩
  exact ⟨rfl, by first | exact hb | exact hb.below⟩
theorem sameS (k1 n1 : Int) (t1 : ByteArray) (r1 k2 n2 : Int) (t2 : ByteArray) (r2 : Int) (hx : 0 ≤ n1 ∧ n1 < 18446744073709551616) (hy : 0 ≤ n2 ∧ n2 < 18446744073709551616) (w : World) : Calls Try.prog 58 #[.agg #[.int .i64 k1, .int .u64 n1, .string t1, .int .i64 r1], .agg #[.int .i64 k2, .int .u64 n2, .string t2, .int .i64 r2]] w fun e w' => e = .returned (.bool (same k1 n1 t1 r1 k2 n2 t2 r2)) ∧ Below w.heap.size w w' := by
  obtain ⟨k, hk⟩ := fuel
  refine (spec_SameValue.calls k k1 n1 t1 r1 k2 n2 t2 r2 _ w (specSame (by omega) k1 n1 t1 r1 k2 n2 t2 r2 hx hy)).mono ?_
  rintro e w1 ⟨rfl, hb⟩
  exact ⟨rfl, by first | exact hb | exact hb.below⟩
theorem addS (x y : Int) (hx : 0 ≤ x ∧ x < 18446744073709551616) (hy : 0 ≤ y ∧ y < 18446744073709551616) (w : World) : Calls Try.prog 62 #[.int .u64 x, .int .u64 y] w fun e w' => e = .returned (.int .u64 (opW (double.add x.toNat y.toNat))) ∧ Below w.heap.size w w' := by
  obtain ⟨k, hk⟩ := fuel
  refine (spec_Add.calls k x y _ w (specAdd (by omega) hx hy)).mono ?_
  rintro e w1 ⟨rfl, hb⟩
  exact ⟨rfl, by first | exact hb | exact hb.below⟩
theorem subS (x y : Int) (hx : 0 ≤ x ∧ x < 18446744073709551616) (hy : 0 ≤ y ∧ y < 18446744073709551616) (w : World) : Calls Try.prog 63 #[.int .u64 x, .int .u64 y] w fun e w' => e = .returned (.int .u64 (opW (double.add x.toNat (negW y).toNat))) ∧ Below w.heap.size w w' := by
  obtain ⟨k, hk⟩ := fuel
  refine (spec_Sub.calls k x y _ w (specSub (by omega) hx hy)).mono ?_
  rintro e w1 ⟨rfl, hb⟩
  exact ⟨rfl, by first | exact hb | exact hb.below⟩
theorem mulS (x y : Int) (hx : 0 ≤ x ∧ x < 18446744073709551616) (hy : 0 ≤ y ∧ y < 18446744073709551616) (w : World) : Calls Try.prog 18 #[.int .u64 x, .int .u64 y] w fun e w' => e = .returned (.int .u64 (opW (double.mul x.toNat y.toNat))) ∧ Below w.heap.size w w' := by
  obtain ⟨k, hk⟩ := fuel
  refine (spec_Mul.calls k x y _ w (specMul (by omega) hx hy)).mono ?_
  rintro e w1 ⟨rfl, hb⟩
  exact ⟨rfl, by first | exact hb | exact hb.below⟩
theorem divS (x y : Int) (hx : 0 ≤ x ∧ x < 18446744073709551616) (hy : 0 ≤ y ∧ y < 18446744073709551616) (w : World) : Calls Try.prog 64 #[.int .u64 x, .int .u64 y] w fun e w' => e = .returned (.int .u64 (opW (double.div x.toNat y.toNat))) ∧ Below w.heap.size w w' := by
  obtain ⟨k, hk⟩ := fuel
  refine (spec_Div.calls k x y _ w (specDiv (by omega) hx hy)).mono ?_
  rintro e w1 ⟨rfl, hb⟩
  exact ⟨rfl, by first | exact hb | exact hb.below⟩
theorem remS (x y : Int) (hx : 0 ≤ x ∧ x < 18446744073709551616) (hy : 0 ≤ y ∧ y < 18446744073709551616) (w : World) : Calls Try.prog 65 #[.int .u64 x, .int .u64 y] w fun e w' => e = .returned (.int .u64 (remI x.toNat y.toNat)) ∧ Below w.heap.size w w' := by
  obtain ⟨k, hk⟩ := fuel
  refine (spec_Rem.calls k x y _ w (specRem (by omega) hx hy)).mono ?_
  rintro e w1 ⟨rfl, hb⟩
  exact ⟨rfl, by first | exact hb | exact hb.below⟩
theorem lessS (x y : Int) (hx : 0 ≤ x ∧ x < 18446744073709551616) (hy : 0 ≤ y ∧ y < 18446744073709551616) (w : World) : Calls Try.prog 19 #[.int .u64 x, .int .u64 y] w fun e w' => e = .returned (.bool (double.order x.toNat y.toNat == some .lt)) ∧ Below w.heap.size w w' := by
  obtain ⟨k, hk⟩ := fuel
  refine (spec_Less.calls k x y _ w (specLess (by omega) hx hy)).mono ?_
  rintro e w1 ⟨rfl, hb⟩
  exact ⟨rfl, by first | exact hb | exact hb.below⟩
theorem equalS (x y : Int) (hx : 0 ≤ x ∧ x < 18446744073709551616) (hy : 0 ≤ y ∧ y < 18446744073709551616) (w : World) : Calls Try.prog 13 #[.int .u64 x, .int .u64 y] w fun e w' => e = .returned (.bool (double.order x.toNat y.toNat == some .eq)) ∧ Below w.heap.size w w' := by
  obtain ⟨k, hk⟩ := fuel
  refine (spec_Equal.calls k x y _ w (specEqual (by omega) hx hy)).mono ?_
  rintro e w1 ⟨rfl, hb⟩
  exact ⟨rfl, by first | exact hb | exact hb.below⟩
theorem nanS (x : Int) (hx : 0 ≤ x ∧ x < 18446744073709551616) (w : World) : Calls Try.prog 36 #[.int .u64 x] w fun e w' => e = .returned (.bool (isNan x)) ∧ Below w.heap.size w w' := by
  obtain ⟨k, hk⟩ := fuel
  refine (spec_l03Nan.calls k x _ w (nan_k hx.1 hx.2 (by omega))).mono ?_
  rintro e w1 ⟨rfl, hb⟩
  exact ⟨rfl, by first | exact hb | exact hb.below⟩
def dobS.T16 : Bool × List (List Nat × List Nat) := (true, [([], []), ([], []), ([1], [1]), ([], []), ([3], [3]), ([2, 4], [2, 4]), ([], []), ([6], [6]), ([], []), ([8], [8]), ([7, 9, 5], [7, 9]), ([], []), ([11], [11]), ([12, 10], [12]), ([13, 13], [13]), ([14], [14]), ([15, 14], [14, 15]), ([16, 14, 14], [14, 16]), ([14, 17], [14, 17]), ([0, 5, 10, 18, 17], [0, 5, 10, 18]), ([19, 19, 0, 1, 2, 3, 4, 5, 6, 7, 8, 9, 10, 11, 12, 13, 14, 15, 16, 17, 18, 19], [19]), ([20, 0, 1, 2, 3, 4, 5, 6, 7, 8, 9, 10, 11, 12, 13, 14, 15, 16, 17, 18, 19, 20], [])])
def dobS.B16 : List Nat := [0, 0, 2, 0, 8, 30, 0, 64, 0, 256, 1022, 0, 2048, 8190, 16382, 32766, 65534, 131070, 262142, 524287, 1048575, 2097151]
theorem dobS.tab16 : rtab .any (opsOf Try.f26 16) = dobS.T16 := by kernel_rfl
theorem dobS.bits16 : waitsOk dobS.T16.2 dobS.B16 = true := by kernel_rfl
set_option maxHeartbeats 8000000 in
set_option maxRecDepth 100000 in
theorem s_same_22 (op k1 n1 r1 k2 n2 r2 : Int) (t1 t2 : ByteArray) (w : World) (hn1 : 0 ≤ n1 ∧ n1 < 18446744073709551616) (hn2 : 0 ≤ n2 ∧ n2 < 18446744073709551616) (hs1 : t1.size ≤ 1048576) (hs2 : t2.size ≤ 1048576) (a0 : (k1 == 2) = true) (a1 : (k2 == 2) = true) (a2 : (k1 == 3) = false) (a3 : (k2 == 3) = false) (b0 : (op == 10) = true)
    (hres : binV op k1 n1 t1 r1 k2 n2 t2 r2 = (1, bn (same k1 n1 t1 r1 k2 n2 t2 r2), (⟨#[]⟩ : ByteArray), 0, (⟨#[]⟩ : ByteArray))) :
    Calls Try.prog 26 #[.int .i64 op, .agg #[.int .i64 k1, .int .u64 n1, .string t1, .int .i64 r1], .agg #[.int .i64 k2, .int .u64 n2, .string t2, .int .i64 r2]] w fun e w' => e = .returned (.tuple #[.agg #[.int .i64 (binV op k1 n1 t1 r1 k2 n2 t2 r2).1, .int .u64 (binV op k1 n1 t1 r1 k2 n2 t2 r2).2.1, .string (binV op k1 n1 t1 r1 k2 n2 t2 r2).2.2.1, .int .i64 (binV op k1 n1 t1 r1 k2 n2 t2 r2).2.2.2.1], .string (binV op k1 n1 t1 r1 k2 n2 t2 r2).2.2.2.2]) ∧ Below w.heap.size w w' := by
  have hu := Try.underlying37
  have HR := Aside0.mk hres; clear hres
  have M0 := Aside0.mk ((((Mem.start w).allocAt (g := w.heap.size) rfl #[.int .i64 k1, .int .u64 n1, .string t1, .int .i64 r1] 37).allocAt (g := w.heap.size + 1) (by simp) #[.int .i64 k2, .int .u64 n2, .string t2, .int .i64 r2] 37).allocAt (g := w.heap.size + 1 + 1) (by simp) #[.int .i64 0, .int .u64 0, .string (⟨#[]⟩ : ByteArray), .int .i64 0] 37)
  have za := M0.out.box (.tail _ (.tail _ (.head _))); have zb := M0.out.box (.tail _ (.head _)); have zz := M0.out.box (.head _); have fz := M0.out.free (.head _)
  go_enter Try.func26, Try.ntmps26
  go_wp2_with fail
  repeat (go_quiet (fail); go_wp2_with fail)
  refine (sameS k1 n1 t1 r1 k2 n2 t2 r2 hn1 hn2 _).mono ?_
  rintro e v1 ⟨rfl, hb⟩
  have M1 := Aside0.mk (M0.out.step hb); clear hb za zb zz fz M0
  have za := M1.out.box (.tail _ (.tail _ (.head _))); have zb := M1.out.box (.tail _ (.head _)); have zz := M1.out.box (.head _); have fz := M1.out.free (.head _)
  go_wp2_with fail
  repeat (go_quiet (fail); go_wp2_with fail)
  refine (boolS _ _).mono ?_
  rintro e v2 ⟨rfl, hb⟩
  have M2 := Aside0.mk (M1.out.step hb); clear hb za zb zz fz M1
  have za := M2.out.box (.tail _ (.tail _ (.head _))); have zb := M2.out.box (.tail _ (.head _)); have zz := M2.out.box (.head _); have fz := M2.out.free (.head _)
  go_wp2
  have M9 := Aside0.mk ((((M2.out.set (A := []) 0 (.int .i64 (1)) rfl).set (A := []) 1 (.int .u64 (bn (same k1 n1 t1 r1 k2 n2 t2 r2))) rfl).set (A := []) 2 (.string ((⟨#[]⟩ : ByteArray))) rfl).set (A := []) 3 (.int .i64 (0)) rfl)
  refine bodyPost_ret (results_ct rfl _ _ (w.heap.size + 1 + 1) 37 #[.int .i64 (1), .int .u64 (bn (same k1 n1 t1 r1 k2 n2 t2 r2)), .string ((⟨#[]⟩ : ByteArray)), .int .i64 (0)] (0, 0) _ rfl (M9.out.blk (.head _)) Try.underlying37 rfl (by kernel_rfl)) rfl ?_
  exact ⟨by rw [HR.out]; rfl, M9.out.below⟩
set_option maxHeartbeats 8000000 in
set_option maxRecDepth 100000 in
theorem s_other_22 (op k1 n1 r1 k2 n2 r2 : Int) (t1 t2 : ByteArray) (w : World) (hn1 : 0 ≤ n1 ∧ n1 < 18446744073709551616) (hn2 : 0 ≤ n2 ∧ n2 < 18446744073709551616) (hs1 : t1.size ≤ 1048576) (hs2 : t2.size ≤ 1048576) (a0 : (k1 == 2) = true) (a1 : (k2 == 2) = true) (a2 : (k1 == 3) = false) (a3 : (k2 == 3) = false) (b0 : (op == 10) = false) (b1 : (op == 11) = true)
    (hres : binV op k1 n1 t1 r1 k2 n2 t2 r2 = (1, bn (!same k1 n1 t1 r1 k2 n2 t2 r2), (⟨#[]⟩ : ByteArray), 0, (⟨#[]⟩ : ByteArray))) :
    Calls Try.prog 26 #[.int .i64 op, .agg #[.int .i64 k1, .int .u64 n1, .string t1, .int .i64 r1], .agg #[.int .i64 k2, .int .u64 n2, .string t2, .int .i64 r2]] w fun e w' => e = .returned (.tuple #[.agg #[.int .i64 (binV op k1 n1 t1 r1 k2 n2 t2 r2).1, .int .u64 (binV op k1 n1 t1 r1 k2 n2 t2 r2).2.1, .string (binV op k1 n1 t1 r1 k2 n2 t2 r2).2.2.1, .int .i64 (binV op k1 n1 t1 r1 k2 n2 t2 r2).2.2.2.1], .string (binV op k1 n1 t1 r1 k2 n2 t2 r2).2.2.2.2]) ∧ Below w.heap.size w w' := by
  have hu := Try.underlying37
  have HR := Aside0.mk hres; clear hres
  have M0 := Aside0.mk ((((Mem.start w).allocAt (g := w.heap.size) rfl #[.int .i64 k1, .int .u64 n1, .string t1, .int .i64 r1] 37).allocAt (g := w.heap.size + 1) (by simp) #[.int .i64 k2, .int .u64 n2, .string t2, .int .i64 r2] 37).allocAt (g := w.heap.size + 1 + 1) (by simp) #[.int .i64 0, .int .u64 0, .string (⟨#[]⟩ : ByteArray), .int .i64 0] 37)
  have za := M0.out.box (.tail _ (.tail _ (.head _))); have zb := M0.out.box (.tail _ (.head _)); have zz := M0.out.box (.head _); have fz := M0.out.free (.head _)
  go_enter Try.func26, Try.ntmps26
  go_wp2_with fail
  repeat (go_quiet (fail); go_wp2_with fail)
  refine (sameS k1 n1 t1 r1 k2 n2 t2 r2 hn1 hn2 _).mono ?_
  rintro e v1 ⟨rfl, hb⟩
  have M1 := Aside0.mk (M0.out.step hb); clear hb za zb zz fz M0
  have za := M1.out.box (.tail _ (.tail _ (.head _))); have zb := M1.out.box (.tail _ (.head _)); have zz := M1.out.box (.head _); have fz := M1.out.free (.head _)
  go_wp2_with fail
  repeat (go_quiet (fail); go_wp2_with fail)
  refine (boolS _ _).mono ?_
  rintro e v2 ⟨rfl, hb⟩
  have M2 := Aside0.mk (M1.out.step hb); clear hb za zb zz fz M1
  have za := M2.out.box (.tail _ (.tail _ (.head _))); have zb := M2.out.box (.tail _ (.head _)); have zz := M2.out.box (.head _); have fz := M2.out.free (.head _)
  go_wp2
  have M9 := Aside0.mk ((((M2.out.set (A := []) 0 (.int .i64 (1)) rfl).set (A := []) 1 (.int .u64 (bn (!same k1 n1 t1 r1 k2 n2 t2 r2))) rfl).set (A := []) 2 (.string ((⟨#[]⟩ : ByteArray))) rfl).set (A := []) 3 (.int .i64 (0)) rfl)
  refine bodyPost_ret (results_ct rfl _ _ (w.heap.size + 1 + 1) 37 #[.int .i64 (1), .int .u64 (bn (!same k1 n1 t1 r1 k2 n2 t2 r2)), .string ((⟨#[]⟩ : ByteArray)), .int .i64 (0)] (0, 0) _ rfl (M9.out.blk (.head _)) Try.underlying37 rfl (by kernel_rfl)) rfl ?_
  exact ⟨by rw [HR.out]; rfl, M9.out.below⟩
set_option maxHeartbeats 8000000 in
set_option maxRecDepth 100000 in
theorem s_same_2o (op k1 n1 r1 k2 n2 r2 : Int) (t1 t2 : ByteArray) (w : World) (hn1 : 0 ≤ n1 ∧ n1 < 18446744073709551616) (hn2 : 0 ≤ n2 ∧ n2 < 18446744073709551616) (hs1 : t1.size ≤ 1048576) (hs2 : t2.size ≤ 1048576) (a0 : (k1 == 2) = true) (a1 : (k2 == 2) = false) (a2 : (k1 == 3) = false) (b0 : (op == 10) = true)
    (hres : binV op k1 n1 t1 r1 k2 n2 t2 r2 = (1, bn (same k1 n1 t1 r1 k2 n2 t2 r2), (⟨#[]⟩ : ByteArray), 0, (⟨#[]⟩ : ByteArray))) :
    Calls Try.prog 26 #[.int .i64 op, .agg #[.int .i64 k1, .int .u64 n1, .string t1, .int .i64 r1], .agg #[.int .i64 k2, .int .u64 n2, .string t2, .int .i64 r2]] w fun e w' => e = .returned (.tuple #[.agg #[.int .i64 (binV op k1 n1 t1 r1 k2 n2 t2 r2).1, .int .u64 (binV op k1 n1 t1 r1 k2 n2 t2 r2).2.1, .string (binV op k1 n1 t1 r1 k2 n2 t2 r2).2.2.1, .int .i64 (binV op k1 n1 t1 r1 k2 n2 t2 r2).2.2.2.1], .string (binV op k1 n1 t1 r1 k2 n2 t2 r2).2.2.2.2]) ∧ Below w.heap.size w w' := by
  have hu := Try.underlying37
  have HR := Aside0.mk hres; clear hres
  have M0 := Aside0.mk ((((Mem.start w).allocAt (g := w.heap.size) rfl #[.int .i64 k1, .int .u64 n1, .string t1, .int .i64 r1] 37).allocAt (g := w.heap.size + 1) (by simp) #[.int .i64 k2, .int .u64 n2, .string t2, .int .i64 r2] 37).allocAt (g := w.heap.size + 1 + 1) (by simp) #[.int .i64 0, .int .u64 0, .string (⟨#[]⟩ : ByteArray), .int .i64 0] 37)
  have za := M0.out.box (.tail _ (.tail _ (.head _))); have zb := M0.out.box (.tail _ (.head _)); have zz := M0.out.box (.head _); have fz := M0.out.free (.head _)
  go_enter Try.func26, Try.ntmps26
  go_wp2_with fail
  repeat (go_quiet (fail); go_wp2_with fail)
  refine (sameS k1 n1 t1 r1 k2 n2 t2 r2 hn1 hn2 _).mono ?_
  rintro e v1 ⟨rfl, hb⟩
  have M1 := Aside0.mk (M0.out.step hb); clear hb za zb zz fz M0
  have za := M1.out.box (.tail _ (.tail _ (.head _))); have zb := M1.out.box (.tail _ (.head _)); have zz := M1.out.box (.head _); have fz := M1.out.free (.head _)
  go_wp2_with fail
  repeat (go_quiet (fail); go_wp2_with fail)
  refine (boolS _ _).mono ?_
  rintro e v2 ⟨rfl, hb⟩
  have M2 := Aside0.mk (M1.out.step hb); clear hb za zb zz fz M1
  have za := M2.out.box (.tail _ (.tail _ (.head _))); have zb := M2.out.box (.tail _ (.head _)); have zz := M2.out.box (.head _); have fz := M2.out.free (.head _)
  go_wp2
  have M9 := Aside0.mk ((((M2.out.set (A := []) 0 (.int .i64 (1)) rfl).set (A := []) 1 (.int .u64 (bn (same k1 n1 t1 r1 k2 n2 t2 r2))) rfl).set (A := []) 2 (.string ((⟨#[]⟩ : ByteArray))) rfl).set (A := []) 3 (.int .i64 (0)) rfl)
  refine bodyPost_ret (results_ct rfl _ _ (w.heap.size + 1 + 1) 37 #[.int .i64 (1), .int .u64 (bn (same k1 n1 t1 r1 k2 n2 t2 r2)), .string ((⟨#[]⟩ : ByteArray)), .int .i64 (0)] (0, 0) _ rfl (M9.out.blk (.head _)) Try.underlying37 rfl (by kernel_rfl)) rfl ?_
  exact ⟨by rw [HR.out]; rfl, M9.out.below⟩
set_option maxHeartbeats 8000000 in
set_option maxRecDepth 100000 in
theorem s_other_2o (op k1 n1 r1 k2 n2 r2 : Int) (t1 t2 : ByteArray) (w : World) (hn1 : 0 ≤ n1 ∧ n1 < 18446744073709551616) (hn2 : 0 ≤ n2 ∧ n2 < 18446744073709551616) (hs1 : t1.size ≤ 1048576) (hs2 : t2.size ≤ 1048576) (a0 : (k1 == 2) = true) (a1 : (k2 == 2) = false) (a2 : (k1 == 3) = false) (b0 : (op == 10) = false) (b1 : (op == 11) = true)
    (hres : binV op k1 n1 t1 r1 k2 n2 t2 r2 = (1, bn (!same k1 n1 t1 r1 k2 n2 t2 r2), (⟨#[]⟩ : ByteArray), 0, (⟨#[]⟩ : ByteArray))) :
    Calls Try.prog 26 #[.int .i64 op, .agg #[.int .i64 k1, .int .u64 n1, .string t1, .int .i64 r1], .agg #[.int .i64 k2, .int .u64 n2, .string t2, .int .i64 r2]] w fun e w' => e = .returned (.tuple #[.agg #[.int .i64 (binV op k1 n1 t1 r1 k2 n2 t2 r2).1, .int .u64 (binV op k1 n1 t1 r1 k2 n2 t2 r2).2.1, .string (binV op k1 n1 t1 r1 k2 n2 t2 r2).2.2.1, .int .i64 (binV op k1 n1 t1 r1 k2 n2 t2 r2).2.2.2.1], .string (binV op k1 n1 t1 r1 k2 n2 t2 r2).2.2.2.2]) ∧ Below w.heap.size w w' := by
  have hu := Try.underlying37
  have HR := Aside0.mk hres; clear hres
  have M0 := Aside0.mk ((((Mem.start w).allocAt (g := w.heap.size) rfl #[.int .i64 k1, .int .u64 n1, .string t1, .int .i64 r1] 37).allocAt (g := w.heap.size + 1) (by simp) #[.int .i64 k2, .int .u64 n2, .string t2, .int .i64 r2] 37).allocAt (g := w.heap.size + 1 + 1) (by simp) #[.int .i64 0, .int .u64 0, .string (⟨#[]⟩ : ByteArray), .int .i64 0] 37)
  have za := M0.out.box (.tail _ (.tail _ (.head _))); have zb := M0.out.box (.tail _ (.head _)); have zz := M0.out.box (.head _); have fz := M0.out.free (.head _)
  go_enter Try.func26, Try.ntmps26
  go_wp2_with fail
  repeat (go_quiet (fail); go_wp2_with fail)
  refine (sameS k1 n1 t1 r1 k2 n2 t2 r2 hn1 hn2 _).mono ?_
  rintro e v1 ⟨rfl, hb⟩
  have M1 := Aside0.mk (M0.out.step hb); clear hb za zb zz fz M0
  have za := M1.out.box (.tail _ (.tail _ (.head _))); have zb := M1.out.box (.tail _ (.head _)); have zz := M1.out.box (.head _); have fz := M1.out.free (.head _)
  go_wp2_with fail
  repeat (go_quiet (fail); go_wp2_with fail)
  refine (boolS _ _).mono ?_
  rintro e v2 ⟨rfl, hb⟩
  have M2 := Aside0.mk (M1.out.step hb); clear hb za zb zz fz M1
  have za := M2.out.box (.tail _ (.tail _ (.head _))); have zb := M2.out.box (.tail _ (.head _)); have zz := M2.out.box (.head _); have fz := M2.out.free (.head _)
  go_wp2
  have M9 := Aside0.mk ((((M2.out.set (A := []) 0 (.int .i64 (1)) rfl).set (A := []) 1 (.int .u64 (bn (!same k1 n1 t1 r1 k2 n2 t2 r2))) rfl).set (A := []) 2 (.string ((⟨#[]⟩ : ByteArray))) rfl).set (A := []) 3 (.int .i64 (0)) rfl)
  refine bodyPost_ret (results_ct rfl _ _ (w.heap.size + 1 + 1) 37 #[.int .i64 (1), .int .u64 (bn (!same k1 n1 t1 r1 k2 n2 t2 r2)), .string ((⟨#[]⟩ : ByteArray)), .int .i64 (0)] (0, 0) _ rfl (M9.out.blk (.head _)) Try.underlying37 rfl (by kernel_rfl)) rfl ?_
  exact ⟨by rw [HR.out]; rfl, M9.out.below⟩
set_option maxHeartbeats 8000000 in
set_option maxRecDepth 100000 in
theorem s_same_33 (op k1 n1 r1 k2 n2 r2 : Int) (t1 t2 : ByteArray) (w : World) (hn1 : 0 ≤ n1 ∧ n1 < 18446744073709551616) (hn2 : 0 ≤ n2 ∧ n2 < 18446744073709551616) (hs1 : t1.size ≤ 1048576) (hs2 : t2.size ≤ 1048576) (a0 : (k1 == 2) = false) (a2 : (k1 == 3) = true) (a3 : (k2 == 3) = true) (b0 : (op == 10) = true)
    (hres : binV op k1 n1 t1 r1 k2 n2 t2 r2 = (1, bn (same k1 n1 t1 r1 k2 n2 t2 r2), (⟨#[]⟩ : ByteArray), 0, (⟨#[]⟩ : ByteArray))) :
    Calls Try.prog 26 #[.int .i64 op, .agg #[.int .i64 k1, .int .u64 n1, .string t1, .int .i64 r1], .agg #[.int .i64 k2, .int .u64 n2, .string t2, .int .i64 r2]] w fun e w' => e = .returned (.tuple #[.agg #[.int .i64 (binV op k1 n1 t1 r1 k2 n2 t2 r2).1, .int .u64 (binV op k1 n1 t1 r1 k2 n2 t2 r2).2.1, .string (binV op k1 n1 t1 r1 k2 n2 t2 r2).2.2.1, .int .i64 (binV op k1 n1 t1 r1 k2 n2 t2 r2).2.2.2.1], .string (binV op k1 n1 t1 r1 k2 n2 t2 r2).2.2.2.2]) ∧ Below w.heap.size w w' := by
  have hu := Try.underlying37
  have HR := Aside0.mk hres; clear hres
  have M0 := Aside0.mk ((((Mem.start w).allocAt (g := w.heap.size) rfl #[.int .i64 k1, .int .u64 n1, .string t1, .int .i64 r1] 37).allocAt (g := w.heap.size + 1) (by simp) #[.int .i64 k2, .int .u64 n2, .string t2, .int .i64 r2] 37).allocAt (g := w.heap.size + 1 + 1) (by simp) #[.int .i64 0, .int .u64 0, .string (⟨#[]⟩ : ByteArray), .int .i64 0] 37)
  have za := M0.out.box (.tail _ (.tail _ (.head _))); have zb := M0.out.box (.tail _ (.head _)); have zz := M0.out.box (.head _); have fz := M0.out.free (.head _)
  go_enter Try.func26, Try.ntmps26
  go_wp2_with fail
  repeat (go_quiet (fail); go_wp2_with fail)
  refine (sameS k1 n1 t1 r1 k2 n2 t2 r2 hn1 hn2 _).mono ?_
  rintro e v1 ⟨rfl, hb⟩
  have M1 := Aside0.mk (M0.out.step hb); clear hb za zb zz fz M0
  have za := M1.out.box (.tail _ (.tail _ (.head _))); have zb := M1.out.box (.tail _ (.head _)); have zz := M1.out.box (.head _); have fz := M1.out.free (.head _)
  go_wp2_with fail
  repeat (go_quiet (fail); go_wp2_with fail)
  refine (boolS _ _).mono ?_
  rintro e v2 ⟨rfl, hb⟩
  have M2 := Aside0.mk (M1.out.step hb); clear hb za zb zz fz M1
  have za := M2.out.box (.tail _ (.tail _ (.head _))); have zb := M2.out.box (.tail _ (.head _)); have zz := M2.out.box (.head _); have fz := M2.out.free (.head _)
  go_wp2
  have M9 := Aside0.mk ((((M2.out.set (A := []) 0 (.int .i64 (1)) rfl).set (A := []) 1 (.int .u64 (bn (same k1 n1 t1 r1 k2 n2 t2 r2))) rfl).set (A := []) 2 (.string ((⟨#[]⟩ : ByteArray))) rfl).set (A := []) 3 (.int .i64 (0)) rfl)
  refine bodyPost_ret (results_ct rfl _ _ (w.heap.size + 1 + 1) 37 #[.int .i64 (1), .int .u64 (bn (same k1 n1 t1 r1 k2 n2 t2 r2)), .string ((⟨#[]⟩ : ByteArray)), .int .i64 (0)] (0, 0) _ rfl (M9.out.blk (.head _)) Try.underlying37 rfl (by kernel_rfl)) rfl ?_
  exact ⟨by rw [HR.out]; rfl, M9.out.below⟩
set_option maxHeartbeats 8000000 in
set_option maxRecDepth 100000 in
theorem s_other_33 (op k1 n1 r1 k2 n2 r2 : Int) (t1 t2 : ByteArray) (w : World) (hn1 : 0 ≤ n1 ∧ n1 < 18446744073709551616) (hn2 : 0 ≤ n2 ∧ n2 < 18446744073709551616) (hs1 : t1.size ≤ 1048576) (hs2 : t2.size ≤ 1048576) (a0 : (k1 == 2) = false) (a2 : (k1 == 3) = true) (a3 : (k2 == 3) = true) (b0 : (op == 10) = false) (b1 : (op == 11) = true)
    (hres : binV op k1 n1 t1 r1 k2 n2 t2 r2 = (1, bn (!same k1 n1 t1 r1 k2 n2 t2 r2), (⟨#[]⟩ : ByteArray), 0, (⟨#[]⟩ : ByteArray))) :
    Calls Try.prog 26 #[.int .i64 op, .agg #[.int .i64 k1, .int .u64 n1, .string t1, .int .i64 r1], .agg #[.int .i64 k2, .int .u64 n2, .string t2, .int .i64 r2]] w fun e w' => e = .returned (.tuple #[.agg #[.int .i64 (binV op k1 n1 t1 r1 k2 n2 t2 r2).1, .int .u64 (binV op k1 n1 t1 r1 k2 n2 t2 r2).2.1, .string (binV op k1 n1 t1 r1 k2 n2 t2 r2).2.2.1, .int .i64 (binV op k1 n1 t1 r1 k2 n2 t2 r2).2.2.2.1], .string (binV op k1 n1 t1 r1 k2 n2 t2 r2).2.2.2.2]) ∧ Below w.heap.size w w' := by
  have hu := Try.underlying37
  have HR := Aside0.mk hres; clear hres
  have M0 := Aside0.mk ((((Mem.start w).allocAt (g := w.heap.size) rfl #[.int .i64 k1, .int .u64 n1, .string t1, .int .i64 r1] 37).allocAt (g := w.heap.size + 1) (by simp) #[.int .i64 k2, .int .u64 n2, .string t2, .int .i64 r2] 37).allocAt (g := w.heap.size + 1 + 1) (by simp) #[.int .i64 0, .int .u64 0, .string (⟨#[]⟩ : ByteArray), .int .i64 0] 37)
  have za := M0.out.box (.tail _ (.tail _ (.head _))); have zb := M0.out.box (.tail _ (.head _)); have zz := M0.out.box (.head _); have fz := M0.out.free (.head _)
  go_enter Try.func26, Try.ntmps26
  go_wp2_with fail
  repeat (go_quiet (fail); go_wp2_with fail)
  refine (sameS k1 n1 t1 r1 k2 n2 t2 r2 hn1 hn2 _).mono ?_
  rintro e v1 ⟨rfl, hb⟩
  have M1 := Aside0.mk (M0.out.step hb); clear hb za zb zz fz M0
  have za := M1.out.box (.tail _ (.tail _ (.head _))); have zb := M1.out.box (.tail _ (.head _)); have zz := M1.out.box (.head _); have fz := M1.out.free (.head _)
  go_wp2_with fail
  repeat (go_quiet (fail); go_wp2_with fail)
  refine (boolS _ _).mono ?_
  rintro e v2 ⟨rfl, hb⟩
  have M2 := Aside0.mk (M1.out.step hb); clear hb za zb zz fz M1
  have za := M2.out.box (.tail _ (.tail _ (.head _))); have zb := M2.out.box (.tail _ (.head _)); have zz := M2.out.box (.head _); have fz := M2.out.free (.head _)
  go_wp2
  have M9 := Aside0.mk ((((M2.out.set (A := []) 0 (.int .i64 (1)) rfl).set (A := []) 1 (.int .u64 (bn (!same k1 n1 t1 r1 k2 n2 t2 r2))) rfl).set (A := []) 2 (.string ((⟨#[]⟩ : ByteArray))) rfl).set (A := []) 3 (.int .i64 (0)) rfl)
  refine bodyPost_ret (results_ct rfl _ _ (w.heap.size + 1 + 1) 37 #[.int .i64 (1), .int .u64 (bn (!same k1 n1 t1 r1 k2 n2 t2 r2)), .string ((⟨#[]⟩ : ByteArray)), .int .i64 (0)] (0, 0) _ rfl (M9.out.blk (.head _)) Try.underlying37 rfl (by kernel_rfl)) rfl ?_
  exact ⟨by rw [HR.out]; rfl, M9.out.below⟩
set_option maxHeartbeats 8000000 in
set_option maxRecDepth 100000 in
theorem s_same_3o (op k1 n1 r1 k2 n2 r2 : Int) (t1 t2 : ByteArray) (w : World) (hn1 : 0 ≤ n1 ∧ n1 < 18446744073709551616) (hn2 : 0 ≤ n2 ∧ n2 < 18446744073709551616) (hs1 : t1.size ≤ 1048576) (hs2 : t2.size ≤ 1048576) (a0 : (k1 == 2) = false) (a2 : (k1 == 3) = true) (a3 : (k2 == 3) = false) (b0 : (op == 10) = true)
    (hres : binV op k1 n1 t1 r1 k2 n2 t2 r2 = (1, bn (same k1 n1 t1 r1 k2 n2 t2 r2), (⟨#[]⟩ : ByteArray), 0, (⟨#[]⟩ : ByteArray))) :
    Calls Try.prog 26 #[.int .i64 op, .agg #[.int .i64 k1, .int .u64 n1, .string t1, .int .i64 r1], .agg #[.int .i64 k2, .int .u64 n2, .string t2, .int .i64 r2]] w fun e w' => e = .returned (.tuple #[.agg #[.int .i64 (binV op k1 n1 t1 r1 k2 n2 t2 r2).1, .int .u64 (binV op k1 n1 t1 r1 k2 n2 t2 r2).2.1, .string (binV op k1 n1 t1 r1 k2 n2 t2 r2).2.2.1, .int .i64 (binV op k1 n1 t1 r1 k2 n2 t2 r2).2.2.2.1], .string (binV op k1 n1 t1 r1 k2 n2 t2 r2).2.2.2.2]) ∧ Below w.heap.size w w' := by
  have hu := Try.underlying37
  have HR := Aside0.mk hres; clear hres
  have M0 := Aside0.mk ((((Mem.start w).allocAt (g := w.heap.size) rfl #[.int .i64 k1, .int .u64 n1, .string t1, .int .i64 r1] 37).allocAt (g := w.heap.size + 1) (by simp) #[.int .i64 k2, .int .u64 n2, .string t2, .int .i64 r2] 37).allocAt (g := w.heap.size + 1 + 1) (by simp) #[.int .i64 0, .int .u64 0, .string (⟨#[]⟩ : ByteArray), .int .i64 0] 37)
  have za := M0.out.box (.tail _ (.tail _ (.head _))); have zb := M0.out.box (.tail _ (.head _)); have zz := M0.out.box (.head _); have fz := M0.out.free (.head _)
  go_enter Try.func26, Try.ntmps26
  go_wp2_with fail
  repeat (go_quiet (fail); go_wp2_with fail)
  refine (sameS k1 n1 t1 r1 k2 n2 t2 r2 hn1 hn2 _).mono ?_
  rintro e v1 ⟨rfl, hb⟩
  have M1 := Aside0.mk (M0.out.step hb); clear hb za zb zz fz M0
  have za := M1.out.box (.tail _ (.tail _ (.head _))); have zb := M1.out.box (.tail _ (.head _)); have zz := M1.out.box (.head _); have fz := M1.out.free (.head _)
  go_wp2_with fail
  repeat (go_quiet (fail); go_wp2_with fail)
  refine (boolS _ _).mono ?_
  rintro e v2 ⟨rfl, hb⟩
  have M2 := Aside0.mk (M1.out.step hb); clear hb za zb zz fz M1
  have za := M2.out.box (.tail _ (.tail _ (.head _))); have zb := M2.out.box (.tail _ (.head _)); have zz := M2.out.box (.head _); have fz := M2.out.free (.head _)
  go_wp2
  have M9 := Aside0.mk ((((M2.out.set (A := []) 0 (.int .i64 (1)) rfl).set (A := []) 1 (.int .u64 (bn (same k1 n1 t1 r1 k2 n2 t2 r2))) rfl).set (A := []) 2 (.string ((⟨#[]⟩ : ByteArray))) rfl).set (A := []) 3 (.int .i64 (0)) rfl)
  refine bodyPost_ret (results_ct rfl _ _ (w.heap.size + 1 + 1) 37 #[.int .i64 (1), .int .u64 (bn (same k1 n1 t1 r1 k2 n2 t2 r2)), .string ((⟨#[]⟩ : ByteArray)), .int .i64 (0)] (0, 0) _ rfl (M9.out.blk (.head _)) Try.underlying37 rfl (by kernel_rfl)) rfl ?_
  exact ⟨by rw [HR.out]; rfl, M9.out.below⟩
set_option maxHeartbeats 8000000 in
set_option maxRecDepth 100000 in
theorem s_other_3o (op k1 n1 r1 k2 n2 r2 : Int) (t1 t2 : ByteArray) (w : World) (hn1 : 0 ≤ n1 ∧ n1 < 18446744073709551616) (hn2 : 0 ≤ n2 ∧ n2 < 18446744073709551616) (hs1 : t1.size ≤ 1048576) (hs2 : t2.size ≤ 1048576) (a0 : (k1 == 2) = false) (a2 : (k1 == 3) = true) (a3 : (k2 == 3) = false) (b0 : (op == 10) = false) (b1 : (op == 11) = true)
    (hres : binV op k1 n1 t1 r1 k2 n2 t2 r2 = (1, bn (!same k1 n1 t1 r1 k2 n2 t2 r2), (⟨#[]⟩ : ByteArray), 0, (⟨#[]⟩ : ByteArray))) :
    Calls Try.prog 26 #[.int .i64 op, .agg #[.int .i64 k1, .int .u64 n1, .string t1, .int .i64 r1], .agg #[.int .i64 k2, .int .u64 n2, .string t2, .int .i64 r2]] w fun e w' => e = .returned (.tuple #[.agg #[.int .i64 (binV op k1 n1 t1 r1 k2 n2 t2 r2).1, .int .u64 (binV op k1 n1 t1 r1 k2 n2 t2 r2).2.1, .string (binV op k1 n1 t1 r1 k2 n2 t2 r2).2.2.1, .int .i64 (binV op k1 n1 t1 r1 k2 n2 t2 r2).2.2.2.1], .string (binV op k1 n1 t1 r1 k2 n2 t2 r2).2.2.2.2]) ∧ Below w.heap.size w w' := by
  have hu := Try.underlying37
  have HR := Aside0.mk hres; clear hres
  have M0 := Aside0.mk ((((Mem.start w).allocAt (g := w.heap.size) rfl #[.int .i64 k1, .int .u64 n1, .string t1, .int .i64 r1] 37).allocAt (g := w.heap.size + 1) (by simp) #[.int .i64 k2, .int .u64 n2, .string t2, .int .i64 r2] 37).allocAt (g := w.heap.size + 1 + 1) (by simp) #[.int .i64 0, .int .u64 0, .string (⟨#[]⟩ : ByteArray), .int .i64 0] 37)
  have za := M0.out.box (.tail _ (.tail _ (.head _))); have zb := M0.out.box (.tail _ (.head _)); have zz := M0.out.box (.head _); have fz := M0.out.free (.head _)
  go_enter Try.func26, Try.ntmps26
  go_wp2_with fail
  repeat (go_quiet (fail); go_wp2_with fail)
  refine (sameS k1 n1 t1 r1 k2 n2 t2 r2 hn1 hn2 _).mono ?_
  rintro e v1 ⟨rfl, hb⟩
  have M1 := Aside0.mk (M0.out.step hb); clear hb za zb zz fz M0
  have za := M1.out.box (.tail _ (.tail _ (.head _))); have zb := M1.out.box (.tail _ (.head _)); have zz := M1.out.box (.head _); have fz := M1.out.free (.head _)
  go_wp2_with fail
  repeat (go_quiet (fail); go_wp2_with fail)
  refine (boolS _ _).mono ?_
  rintro e v2 ⟨rfl, hb⟩
  have M2 := Aside0.mk (M1.out.step hb); clear hb za zb zz fz M1
  have za := M2.out.box (.tail _ (.tail _ (.head _))); have zb := M2.out.box (.tail _ (.head _)); have zz := M2.out.box (.head _); have fz := M2.out.free (.head _)
  go_wp2
  have M9 := Aside0.mk ((((M2.out.set (A := []) 0 (.int .i64 (1)) rfl).set (A := []) 1 (.int .u64 (bn (!same k1 n1 t1 r1 k2 n2 t2 r2))) rfl).set (A := []) 2 (.string ((⟨#[]⟩ : ByteArray))) rfl).set (A := []) 3 (.int .i64 (0)) rfl)
  refine bodyPost_ret (results_ct rfl _ _ (w.heap.size + 1 + 1) 37 #[.int .i64 (1), .int .u64 (bn (!same k1 n1 t1 r1 k2 n2 t2 r2)), .string ((⟨#[]⟩ : ByteArray)), .int .i64 (0)] (0, 0) _ rfl (M9.out.blk (.head _)) Try.underlying37 rfl (by kernel_rfl)) rfl ?_
  exact ⟨by rw [HR.out]; rfl, M9.out.below⟩
set_option maxHeartbeats 8000000 in
set_option maxRecDepth 100000 in
theorem s_same_oo (op k1 n1 r1 k2 n2 r2 : Int) (t1 t2 : ByteArray) (w : World) (hn1 : 0 ≤ n1 ∧ n1 < 18446744073709551616) (hn2 : 0 ≤ n2 ∧ n2 < 18446744073709551616) (hs1 : t1.size ≤ 1048576) (hs2 : t2.size ≤ 1048576) (a0 : (k1 == 2) = false) (a2 : (k1 == 3) = false) (b0 : (op == 10) = true)
    (hres : binV op k1 n1 t1 r1 k2 n2 t2 r2 = (1, bn (same k1 n1 t1 r1 k2 n2 t2 r2), (⟨#[]⟩ : ByteArray), 0, (⟨#[]⟩ : ByteArray))) :
    Calls Try.prog 26 #[.int .i64 op, .agg #[.int .i64 k1, .int .u64 n1, .string t1, .int .i64 r1], .agg #[.int .i64 k2, .int .u64 n2, .string t2, .int .i64 r2]] w fun e w' => e = .returned (.tuple #[.agg #[.int .i64 (binV op k1 n1 t1 r1 k2 n2 t2 r2).1, .int .u64 (binV op k1 n1 t1 r1 k2 n2 t2 r2).2.1, .string (binV op k1 n1 t1 r1 k2 n2 t2 r2).2.2.1, .int .i64 (binV op k1 n1 t1 r1 k2 n2 t2 r2).2.2.2.1], .string (binV op k1 n1 t1 r1 k2 n2 t2 r2).2.2.2.2]) ∧ Below w.heap.size w w' := by
  have hu := Try.underlying37
  have HR := Aside0.mk hres; clear hres
  have M0 := Aside0.mk ((((Mem.start w).allocAt (g := w.heap.size) rfl #[.int .i64 k1, .int .u64 n1, .string t1, .int .i64 r1] 37).allocAt (g := w.heap.size + 1) (by simp) #[.int .i64 k2, .int .u64 n2, .string t2, .int .i64 r2] 37).allocAt (g := w.heap.size + 1 + 1) (by simp) #[.int .i64 0, .int .u64 0, .string (⟨#[]⟩ : ByteArray), .int .i64 0] 37)
  have za := M0.out.box (.tail _ (.tail _ (.head _))); have zb := M0.out.box (.tail _ (.head _)); have zz := M0.out.box (.head _); have fz := M0.out.free (.head _)
  go_enter Try.func26, Try.ntmps26
  go_wp2_with fail
  repeat (go_quiet (fail); go_wp2_with fail)
  refine (sameS k1 n1 t1 r1 k2 n2 t2 r2 hn1 hn2 _).mono ?_
  rintro e v1 ⟨rfl, hb⟩
  have M1 := Aside0.mk (M0.out.step hb); clear hb za zb zz fz M0
  have za := M1.out.box (.tail _ (.tail _ (.head _))); have zb := M1.out.box (.tail _ (.head _)); have zz := M1.out.box (.head _); have fz := M1.out.free (.head _)
  go_wp2_with fail
  repeat (go_quiet (fail); go_wp2_with fail)
  refine (boolS _ _).mono ?_
  rintro e v2 ⟨rfl, hb⟩
  have M2 := Aside0.mk (M1.out.step hb); clear hb za zb zz fz M1
  have za := M2.out.box (.tail _ (.tail _ (.head _))); have zb := M2.out.box (.tail _ (.head _)); have zz := M2.out.box (.head _); have fz := M2.out.free (.head _)
  go_wp2
  have M9 := Aside0.mk ((((M2.out.set (A := []) 0 (.int .i64 (1)) rfl).set (A := []) 1 (.int .u64 (bn (same k1 n1 t1 r1 k2 n2 t2 r2))) rfl).set (A := []) 2 (.string ((⟨#[]⟩ : ByteArray))) rfl).set (A := []) 3 (.int .i64 (0)) rfl)
  refine bodyPost_ret (results_ct rfl _ _ (w.heap.size + 1 + 1) 37 #[.int .i64 (1), .int .u64 (bn (same k1 n1 t1 r1 k2 n2 t2 r2)), .string ((⟨#[]⟩ : ByteArray)), .int .i64 (0)] (0, 0) _ rfl (M9.out.blk (.head _)) Try.underlying37 rfl (by kernel_rfl)) rfl ?_
  exact ⟨by rw [HR.out]; rfl, M9.out.below⟩
set_option maxHeartbeats 8000000 in
set_option maxRecDepth 100000 in
theorem s_other_oo (op k1 n1 r1 k2 n2 r2 : Int) (t1 t2 : ByteArray) (w : World) (hn1 : 0 ≤ n1 ∧ n1 < 18446744073709551616) (hn2 : 0 ≤ n2 ∧ n2 < 18446744073709551616) (hs1 : t1.size ≤ 1048576) (hs2 : t2.size ≤ 1048576) (a0 : (k1 == 2) = false) (a2 : (k1 == 3) = false) (b0 : (op == 10) = false) (b1 : (op == 11) = true)
    (hres : binV op k1 n1 t1 r1 k2 n2 t2 r2 = (1, bn (!same k1 n1 t1 r1 k2 n2 t2 r2), (⟨#[]⟩ : ByteArray), 0, (⟨#[]⟩ : ByteArray))) :
    Calls Try.prog 26 #[.int .i64 op, .agg #[.int .i64 k1, .int .u64 n1, .string t1, .int .i64 r1], .agg #[.int .i64 k2, .int .u64 n2, .string t2, .int .i64 r2]] w fun e w' => e = .returned (.tuple #[.agg #[.int .i64 (binV op k1 n1 t1 r1 k2 n2 t2 r2).1, .int .u64 (binV op k1 n1 t1 r1 k2 n2 t2 r2).2.1, .string (binV op k1 n1 t1 r1 k2 n2 t2 r2).2.2.1, .int .i64 (binV op k1 n1 t1 r1 k2 n2 t2 r2).2.2.2.1], .string (binV op k1 n1 t1 r1 k2 n2 t2 r2).2.2.2.2]) ∧ Below w.heap.size w w' := by
  have hu := Try.underlying37
  have HR := Aside0.mk hres; clear hres
  have M0 := Aside0.mk ((((Mem.start w).allocAt (g := w.heap.size) rfl #[.int .i64 k1, .int .u64 n1, .string t1, .int .i64 r1] 37).allocAt (g := w.heap.size + 1) (by simp) #[.int .i64 k2, .int .u64 n2, .string t2, .int .i64 r2] 37).allocAt (g := w.heap.size + 1 + 1) (by simp) #[.int .i64 0, .int .u64 0, .string (⟨#[]⟩ : ByteArray), .int .i64 0] 37)
  have za := M0.out.box (.tail _ (.tail _ (.head _))); have zb := M0.out.box (.tail _ (.head _)); have zz := M0.out.box (.head _); have fz := M0.out.free (.head _)
  go_enter Try.func26, Try.ntmps26
  go_wp2_with fail
  repeat (go_quiet (fail); go_wp2_with fail)
  refine (sameS k1 n1 t1 r1 k2 n2 t2 r2 hn1 hn2 _).mono ?_
  rintro e v1 ⟨rfl, hb⟩
  have M1 := Aside0.mk (M0.out.step hb); clear hb za zb zz fz M0
  have za := M1.out.box (.tail _ (.tail _ (.head _))); have zb := M1.out.box (.tail _ (.head _)); have zz := M1.out.box (.head _); have fz := M1.out.free (.head _)
  go_wp2_with fail
  repeat (go_quiet (fail); go_wp2_with fail)
  refine (boolS _ _).mono ?_
  rintro e v2 ⟨rfl, hb⟩
  have M2 := Aside0.mk (M1.out.step hb); clear hb za zb zz fz M1
  have za := M2.out.box (.tail _ (.tail _ (.head _))); have zb := M2.out.box (.tail _ (.head _)); have zz := M2.out.box (.head _); have fz := M2.out.free (.head _)
  go_wp2
  have M9 := Aside0.mk ((((M2.out.set (A := []) 0 (.int .i64 (1)) rfl).set (A := []) 1 (.int .u64 (bn (!same k1 n1 t1 r1 k2 n2 t2 r2))) rfl).set (A := []) 2 (.string ((⟨#[]⟩ : ByteArray))) rfl).set (A := []) 3 (.int .i64 (0)) rfl)
  refine bodyPost_ret (results_ct rfl _ _ (w.heap.size + 1 + 1) 37 #[.int .i64 (1), .int .u64 (bn (!same k1 n1 t1 r1 k2 n2 t2 r2)), .string ((⟨#[]⟩ : ByteArray)), .int .i64 (0)] (0, 0) _ rfl (M9.out.blk (.head _)) Try.underlying37 rfl (by kernel_rfl)) rfl ?_
  exact ⟨by rw [HR.out]; rfl, M9.out.below⟩
set_option maxHeartbeats 8000000 in
set_option maxRecDepth 100000 in
theorem s_type_2o_true (op k1 n1 r1 k2 n2 r2 : Int) (t1 t2 : ByteArray) (w : World) (hn1 : 0 ≤ n1 ∧ n1 < 18446744073709551616) (hn2 : 0 ≤ n2 ∧ n2 < 18446744073709551616) (hs1 : t1.size ≤ 1048576) (hs2 : t2.size ≤ 1048576) (a0 : (k1 == 2) = true) (a1 : (k2 == 2) = false) (a2 : (k1 == 3) = false) (b0 : (op == 10) = false) (b1 : (op == 11) = false) (bw : spec_l01In.f op 6 9 = some true)
    (hres : binV op k1 n1 t1 r1 k2 n2 t2 r2 = (0, 0, (⟨#[]⟩ : ByteArray), 0, (⟨#[116, 121, 112, 101]⟩ : ByteArray))) :
    Calls Try.prog 26 #[.int .i64 op, .agg #[.int .i64 k1, .int .u64 n1, .string t1, .int .i64 r1], .agg #[.int .i64 k2, .int .u64 n2, .string t2, .int .i64 r2]] w fun e w' => e = .returned (.tuple #[.agg #[.int .i64 (binV op k1 n1 t1 r1 k2 n2 t2 r2).1, .int .u64 (binV op k1 n1 t1 r1 k2 n2 t2 r2).2.1, .string (binV op k1 n1 t1 r1 k2 n2 t2 r2).2.2.1, .int .i64 (binV op k1 n1 t1 r1 k2 n2 t2 r2).2.2.2.1], .string (binV op k1 n1 t1 r1 k2 n2 t2 r2).2.2.2.2]) ∧ Below w.heap.size w w' := by
  have hu := Try.underlying37
  have HR := Aside0.mk hres; clear hres
  have M0 := Aside0.mk ((((Mem.start w).allocAt (g := w.heap.size) rfl #[.int .i64 k1, .int .u64 n1, .string t1, .int .i64 r1] 37).allocAt (g := w.heap.size + 1) (by simp) #[.int .i64 k2, .int .u64 n2, .string t2, .int .i64 r2] 37).allocAt (g := w.heap.size + 1 + 1) (by simp) #[.int .i64 0, .int .u64 0, .string (⟨#[]⟩ : ByteArray), .int .i64 0] 37)
  have za := M0.out.box (.tail _ (.tail _ (.head _))); have zb := M0.out.box (.tail _ (.head _)); have zz := M0.out.box (.head _); have fz := M0.out.free (.head _)
  have e0 : (k1 != 2) = false := by rw [bne, a0]; rfl
  have e1 : (k2 != 2) = true := by rw [bne, a1]; rfl
  go_enter Try.func26, Try.ntmps26
  go_wp2_with fail
  repeat (go_quiet (fail); go_wp2_with fail)
  refine (spec_l01In.calls op 6 9 true _ bw).mono ?_
  rintro e v1 ⟨rfl, hb⟩
  have M1 := Aside0.mk (M0.out.step hb.below); clear hb za zb zz fz M0
  have za := M1.out.box (.tail _ (.tail _ (.head _))); have zb := M1.out.box (.tail _ (.head _)); have zz := M1.out.box (.head _); have fz := M1.out.free (.head _)
  go_wp2_with fail
  repeat (go_quiet (fail); go_wp2_with fail)
  have M9 := Aside0.mk ((((M1.out.set (A := []) 0 (.int .i64 (0)) rfl).set (A := []) 1 (.int .u64 (0)) rfl).set (A := []) 2 (.string ((⟨#[]⟩ : ByteArray))) rfl).set (A := []) 3 (.int .i64 (0)) rfl)
  refine bodyPost_ret (results_ct rfl _ _ (w.heap.size + 1 + 1) 37 #[.int .i64 (0), .int .u64 (0), .string ((⟨#[]⟩ : ByteArray)), .int .i64 (0)] (0, 0) _ rfl (M9.out.blk (.head _)) Try.underlying37 rfl (by kernel_rfl)) rfl ?_
  exact ⟨by rw [HR.out]; rfl, M9.out.below⟩
set_option maxHeartbeats 8000000 in
set_option maxRecDepth 100000 in
theorem s_type_2o_false (op k1 n1 r1 k2 n2 r2 : Int) (t1 t2 : ByteArray) (w : World) (hn1 : 0 ≤ n1 ∧ n1 < 18446744073709551616) (hn2 : 0 ≤ n2 ∧ n2 < 18446744073709551616) (hs1 : t1.size ≤ 1048576) (hs2 : t2.size ≤ 1048576) (a0 : (k1 == 2) = true) (a1 : (k2 == 2) = false) (a2 : (k1 == 3) = false) (b0 : (op == 10) = false) (b1 : (op == 11) = false) (bw : spec_l01In.f op 6 9 = some false)
    (hres : binV op k1 n1 t1 r1 k2 n2 t2 r2 = (0, 0, (⟨#[]⟩ : ByteArray), 0, (⟨#[116, 121, 112, 101]⟩ : ByteArray))) :
    Calls Try.prog 26 #[.int .i64 op, .agg #[.int .i64 k1, .int .u64 n1, .string t1, .int .i64 r1], .agg #[.int .i64 k2, .int .u64 n2, .string t2, .int .i64 r2]] w fun e w' => e = .returned (.tuple #[.agg #[.int .i64 (binV op k1 n1 t1 r1 k2 n2 t2 r2).1, .int .u64 (binV op k1 n1 t1 r1 k2 n2 t2 r2).2.1, .string (binV op k1 n1 t1 r1 k2 n2 t2 r2).2.2.1, .int .i64 (binV op k1 n1 t1 r1 k2 n2 t2 r2).2.2.2.1], .string (binV op k1 n1 t1 r1 k2 n2 t2 r2).2.2.2.2]) ∧ Below w.heap.size w w' := by
  have hu := Try.underlying37
  have HR := Aside0.mk hres; clear hres
  have M0 := Aside0.mk ((((Mem.start w).allocAt (g := w.heap.size) rfl #[.int .i64 k1, .int .u64 n1, .string t1, .int .i64 r1] 37).allocAt (g := w.heap.size + 1) (by simp) #[.int .i64 k2, .int .u64 n2, .string t2, .int .i64 r2] 37).allocAt (g := w.heap.size + 1 + 1) (by simp) #[.int .i64 0, .int .u64 0, .string (⟨#[]⟩ : ByteArray), .int .i64 0] 37)
  have za := M0.out.box (.tail _ (.tail _ (.head _))); have zb := M0.out.box (.tail _ (.head _)); have zz := M0.out.box (.head _); have fz := M0.out.free (.head _)
  have e0 : (k1 != 2) = false := by rw [bne, a0]; rfl
  have e1 : (k2 != 2) = true := by rw [bne, a1]; rfl
  go_enter Try.func26, Try.ntmps26
  go_wp2_with fail
  repeat (go_quiet (fail); go_wp2_with fail)
  refine (spec_l01In.calls op 6 9 false _ bw).mono ?_
  rintro e v1 ⟨rfl, hb⟩
  have M1 := Aside0.mk (M0.out.step hb.below); clear hb za zb zz fz M0
  have za := M1.out.box (.tail _ (.tail _ (.head _))); have zb := M1.out.box (.tail _ (.head _)); have zz := M1.out.box (.head _); have fz := M1.out.free (.head _)
  go_wp2_with fail
  repeat (go_quiet (fail); go_wp2_with fail)
  have M9 := Aside0.mk ((((M1.out.set (A := []) 0 (.int .i64 (0)) rfl).set (A := []) 1 (.int .u64 (0)) rfl).set (A := []) 2 (.string ((⟨#[]⟩ : ByteArray))) rfl).set (A := []) 3 (.int .i64 (0)) rfl)
  refine bodyPost_ret (results_ct rfl _ _ (w.heap.size + 1 + 1) 37 #[.int .i64 (0), .int .u64 (0), .string ((⟨#[]⟩ : ByteArray)), .int .i64 (0)] (0, 0) _ rfl (M9.out.blk (.head _)) Try.underlying37 rfl (by kernel_rfl)) rfl ?_
  exact ⟨by rw [HR.out]; rfl, M9.out.below⟩
set_option maxHeartbeats 8000000 in
set_option maxRecDepth 100000 in
theorem s_type_3o_true (op k1 n1 r1 k2 n2 r2 : Int) (t1 t2 : ByteArray) (w : World) (hn1 : 0 ≤ n1 ∧ n1 < 18446744073709551616) (hn2 : 0 ≤ n2 ∧ n2 < 18446744073709551616) (hs1 : t1.size ≤ 1048576) (hs2 : t2.size ≤ 1048576) (a0 : (k1 == 2) = false) (a2 : (k1 == 3) = true) (a3 : (k2 == 3) = false) (b0 : (op == 10) = false) (b1 : (op == 11) = false) (bw : spec_l01In.f op 6 9 = some true)
    (hres : binV op k1 n1 t1 r1 k2 n2 t2 r2 = (0, 0, (⟨#[]⟩ : ByteArray), 0, (⟨#[116, 121, 112, 101]⟩ : ByteArray))) :
    Calls Try.prog 26 #[.int .i64 op, .agg #[.int .i64 k1, .int .u64 n1, .string t1, .int .i64 r1], .agg #[.int .i64 k2, .int .u64 n2, .string t2, .int .i64 r2]] w fun e w' => e = .returned (.tuple #[.agg #[.int .i64 (binV op k1 n1 t1 r1 k2 n2 t2 r2).1, .int .u64 (binV op k1 n1 t1 r1 k2 n2 t2 r2).2.1, .string (binV op k1 n1 t1 r1 k2 n2 t2 r2).2.2.1, .int .i64 (binV op k1 n1 t1 r1 k2 n2 t2 r2).2.2.2.1], .string (binV op k1 n1 t1 r1 k2 n2 t2 r2).2.2.2.2]) ∧ Below w.heap.size w w' := by
  have hu := Try.underlying37
  have HR := Aside0.mk hres; clear hres
  have M0 := Aside0.mk ((((Mem.start w).allocAt (g := w.heap.size) rfl #[.int .i64 k1, .int .u64 n1, .string t1, .int .i64 r1] 37).allocAt (g := w.heap.size + 1) (by simp) #[.int .i64 k2, .int .u64 n2, .string t2, .int .i64 r2] 37).allocAt (g := w.heap.size + 1 + 1) (by simp) #[.int .i64 0, .int .u64 0, .string (⟨#[]⟩ : ByteArray), .int .i64 0] 37)
  have za := M0.out.box (.tail _ (.tail _ (.head _))); have zb := M0.out.box (.tail _ (.head _)); have zz := M0.out.box (.head _); have fz := M0.out.free (.head _)
  have e0 : (k1 != 2) = true := by rw [bne, a0]; rfl
  go_enter Try.func26, Try.ntmps26
  go_wp2_with fail
  repeat (go_quiet (fail); go_wp2_with fail)
  refine (spec_l01In.calls op 6 9 true _ bw).mono ?_
  rintro e v1 ⟨rfl, hb⟩
  have M1 := Aside0.mk (M0.out.step hb.below); clear hb za zb zz fz M0
  have za := M1.out.box (.tail _ (.tail _ (.head _))); have zb := M1.out.box (.tail _ (.head _)); have zz := M1.out.box (.head _); have fz := M1.out.free (.head _)
  go_wp2_with fail
  repeat (go_quiet (fail); go_wp2_with fail)
  have M9 := Aside0.mk ((((M1.out.set (A := []) 0 (.int .i64 (0)) rfl).set (A := []) 1 (.int .u64 (0)) rfl).set (A := []) 2 (.string ((⟨#[]⟩ : ByteArray))) rfl).set (A := []) 3 (.int .i64 (0)) rfl)
  refine bodyPost_ret (results_ct rfl _ _ (w.heap.size + 1 + 1) 37 #[.int .i64 (0), .int .u64 (0), .string ((⟨#[]⟩ : ByteArray)), .int .i64 (0)] (0, 0) _ rfl (M9.out.blk (.head _)) Try.underlying37 rfl (by kernel_rfl)) rfl ?_
  exact ⟨by rw [HR.out]; rfl, M9.out.below⟩
set_option maxHeartbeats 8000000 in
set_option maxRecDepth 100000 in
theorem s_type_3o_false (op k1 n1 r1 k2 n2 r2 : Int) (t1 t2 : ByteArray) (w : World) (hn1 : 0 ≤ n1 ∧ n1 < 18446744073709551616) (hn2 : 0 ≤ n2 ∧ n2 < 18446744073709551616) (hs1 : t1.size ≤ 1048576) (hs2 : t2.size ≤ 1048576) (a0 : (k1 == 2) = false) (a2 : (k1 == 3) = true) (a3 : (k2 == 3) = false) (b0 : (op == 10) = false) (b1 : (op == 11) = false) (bw : spec_l01In.f op 6 9 = some false)
    (hres : binV op k1 n1 t1 r1 k2 n2 t2 r2 = (0, 0, (⟨#[]⟩ : ByteArray), 0, (⟨#[116, 121, 112, 101]⟩ : ByteArray))) :
    Calls Try.prog 26 #[.int .i64 op, .agg #[.int .i64 k1, .int .u64 n1, .string t1, .int .i64 r1], .agg #[.int .i64 k2, .int .u64 n2, .string t2, .int .i64 r2]] w fun e w' => e = .returned (.tuple #[.agg #[.int .i64 (binV op k1 n1 t1 r1 k2 n2 t2 r2).1, .int .u64 (binV op k1 n1 t1 r1 k2 n2 t2 r2).2.1, .string (binV op k1 n1 t1 r1 k2 n2 t2 r2).2.2.1, .int .i64 (binV op k1 n1 t1 r1 k2 n2 t2 r2).2.2.2.1], .string (binV op k1 n1 t1 r1 k2 n2 t2 r2).2.2.2.2]) ∧ Below w.heap.size w w' := by
  have hu := Try.underlying37
  have HR := Aside0.mk hres; clear hres
  have M0 := Aside0.mk ((((Mem.start w).allocAt (g := w.heap.size) rfl #[.int .i64 k1, .int .u64 n1, .string t1, .int .i64 r1] 37).allocAt (g := w.heap.size + 1) (by simp) #[.int .i64 k2, .int .u64 n2, .string t2, .int .i64 r2] 37).allocAt (g := w.heap.size + 1 + 1) (by simp) #[.int .i64 0, .int .u64 0, .string (⟨#[]⟩ : ByteArray), .int .i64 0] 37)
  have za := M0.out.box (.tail _ (.tail _ (.head _))); have zb := M0.out.box (.tail _ (.head _)); have zz := M0.out.box (.head _); have fz := M0.out.free (.head _)
  have e0 : (k1 != 2) = true := by rw [bne, a0]; rfl
  go_enter Try.func26, Try.ntmps26
  go_wp2_with fail
  repeat (go_quiet (fail); go_wp2_with fail)
  refine (spec_l01In.calls op 6 9 false _ bw).mono ?_
  rintro e v1 ⟨rfl, hb⟩
  have M1 := Aside0.mk (M0.out.step hb.below); clear hb za zb zz fz M0
  have za := M1.out.box (.tail _ (.tail _ (.head _))); have zb := M1.out.box (.tail _ (.head _)); have zz := M1.out.box (.head _); have fz := M1.out.free (.head _)
  go_wp2_with fail
  repeat (go_quiet (fail); go_wp2_with fail)
  have M9 := Aside0.mk ((((M1.out.set (A := []) 0 (.int .i64 (0)) rfl).set (A := []) 1 (.int .u64 (0)) rfl).set (A := []) 2 (.string ((⟨#[]⟩ : ByteArray))) rfl).set (A := []) 3 (.int .i64 (0)) rfl)
  refine bodyPost_ret (results_ct rfl _ _ (w.heap.size + 1 + 1) 37 #[.int .i64 (0), .int .u64 (0), .string ((⟨#[]⟩ : ByteArray)), .int .i64 (0)] (0, 0) _ rfl (M9.out.blk (.head _)) Try.underlying37 rfl (by kernel_rfl)) rfl ?_
  exact ⟨by rw [HR.out]; rfl, M9.out.below⟩
set_option maxHeartbeats 8000000 in
set_option maxRecDepth 100000 in
theorem s_type_oo_true (op k1 n1 r1 k2 n2 r2 : Int) (t1 t2 : ByteArray) (w : World) (hn1 : 0 ≤ n1 ∧ n1 < 18446744073709551616) (hn2 : 0 ≤ n2 ∧ n2 < 18446744073709551616) (hs1 : t1.size ≤ 1048576) (hs2 : t2.size ≤ 1048576) (a0 : (k1 == 2) = false) (a2 : (k1 == 3) = false) (b0 : (op == 10) = false) (b1 : (op == 11) = false) (bw : spec_l01In.f op 6 9 = some true)
    (hres : binV op k1 n1 t1 r1 k2 n2 t2 r2 = (0, 0, (⟨#[]⟩ : ByteArray), 0, (⟨#[116, 121, 112, 101]⟩ : ByteArray))) :
    Calls Try.prog 26 #[.int .i64 op, .agg #[.int .i64 k1, .int .u64 n1, .string t1, .int .i64 r1], .agg #[.int .i64 k2, .int .u64 n2, .string t2, .int .i64 r2]] w fun e w' => e = .returned (.tuple #[.agg #[.int .i64 (binV op k1 n1 t1 r1 k2 n2 t2 r2).1, .int .u64 (binV op k1 n1 t1 r1 k2 n2 t2 r2).2.1, .string (binV op k1 n1 t1 r1 k2 n2 t2 r2).2.2.1, .int .i64 (binV op k1 n1 t1 r1 k2 n2 t2 r2).2.2.2.1], .string (binV op k1 n1 t1 r1 k2 n2 t2 r2).2.2.2.2]) ∧ Below w.heap.size w w' := by
  have hu := Try.underlying37
  have HR := Aside0.mk hres; clear hres
  have M0 := Aside0.mk ((((Mem.start w).allocAt (g := w.heap.size) rfl #[.int .i64 k1, .int .u64 n1, .string t1, .int .i64 r1] 37).allocAt (g := w.heap.size + 1) (by simp) #[.int .i64 k2, .int .u64 n2, .string t2, .int .i64 r2] 37).allocAt (g := w.heap.size + 1 + 1) (by simp) #[.int .i64 0, .int .u64 0, .string (⟨#[]⟩ : ByteArray), .int .i64 0] 37)
  have za := M0.out.box (.tail _ (.tail _ (.head _))); have zb := M0.out.box (.tail _ (.head _)); have zz := M0.out.box (.head _); have fz := M0.out.free (.head _)
  have e0 : (k1 != 2) = true := by rw [bne, a0]; rfl
  go_enter Try.func26, Try.ntmps26
  go_wp2_with fail
  repeat (go_quiet (fail); go_wp2_with fail)
  refine (spec_l01In.calls op 6 9 true _ bw).mono ?_
  rintro e v1 ⟨rfl, hb⟩
  have M1 := Aside0.mk (M0.out.step hb.below); clear hb za zb zz fz M0
  have za := M1.out.box (.tail _ (.tail _ (.head _))); have zb := M1.out.box (.tail _ (.head _)); have zz := M1.out.box (.head _); have fz := M1.out.free (.head _)
  go_wp2_with fail
  repeat (go_quiet (fail); go_wp2_with fail)
  have M9 := Aside0.mk ((((M1.out.set (A := []) 0 (.int .i64 (0)) rfl).set (A := []) 1 (.int .u64 (0)) rfl).set (A := []) 2 (.string ((⟨#[]⟩ : ByteArray))) rfl).set (A := []) 3 (.int .i64 (0)) rfl)
  refine bodyPost_ret (results_ct rfl _ _ (w.heap.size + 1 + 1) 37 #[.int .i64 (0), .int .u64 (0), .string ((⟨#[]⟩ : ByteArray)), .int .i64 (0)] (0, 0) _ rfl (M9.out.blk (.head _)) Try.underlying37 rfl (by kernel_rfl)) rfl ?_
  exact ⟨by rw [HR.out]; rfl, M9.out.below⟩
set_option maxHeartbeats 8000000 in
set_option maxRecDepth 100000 in
theorem s_type_oo_false (op k1 n1 r1 k2 n2 r2 : Int) (t1 t2 : ByteArray) (w : World) (hn1 : 0 ≤ n1 ∧ n1 < 18446744073709551616) (hn2 : 0 ≤ n2 ∧ n2 < 18446744073709551616) (hs1 : t1.size ≤ 1048576) (hs2 : t2.size ≤ 1048576) (a0 : (k1 == 2) = false) (a2 : (k1 == 3) = false) (b0 : (op == 10) = false) (b1 : (op == 11) = false) (bw : spec_l01In.f op 6 9 = some false)
    (hres : binV op k1 n1 t1 r1 k2 n2 t2 r2 = (0, 0, (⟨#[]⟩ : ByteArray), 0, (⟨#[116, 121, 112, 101]⟩ : ByteArray))) :
    Calls Try.prog 26 #[.int .i64 op, .agg #[.int .i64 k1, .int .u64 n1, .string t1, .int .i64 r1], .agg #[.int .i64 k2, .int .u64 n2, .string t2, .int .i64 r2]] w fun e w' => e = .returned (.tuple #[.agg #[.int .i64 (binV op k1 n1 t1 r1 k2 n2 t2 r2).1, .int .u64 (binV op k1 n1 t1 r1 k2 n2 t2 r2).2.1, .string (binV op k1 n1 t1 r1 k2 n2 t2 r2).2.2.1, .int .i64 (binV op k1 n1 t1 r1 k2 n2 t2 r2).2.2.2.1], .string (binV op k1 n1 t1 r1 k2 n2 t2 r2).2.2.2.2]) ∧ Below w.heap.size w w' := by
  have hu := Try.underlying37
  have HR := Aside0.mk hres; clear hres
  have M0 := Aside0.mk ((((Mem.start w).allocAt (g := w.heap.size) rfl #[.int .i64 k1, .int .u64 n1, .string t1, .int .i64 r1] 37).allocAt (g := w.heap.size + 1) (by simp) #[.int .i64 k2, .int .u64 n2, .string t2, .int .i64 r2] 37).allocAt (g := w.heap.size + 1 + 1) (by simp) #[.int .i64 0, .int .u64 0, .string (⟨#[]⟩ : ByteArray), .int .i64 0] 37)
  have za := M0.out.box (.tail _ (.tail _ (.head _))); have zb := M0.out.box (.tail _ (.head _)); have zz := M0.out.box (.head _); have fz := M0.out.free (.head _)
  have e0 : (k1 != 2) = true := by rw [bne, a0]; rfl
  go_enter Try.func26, Try.ntmps26
  go_wp2_with fail
  repeat (go_quiet (fail); go_wp2_with fail)
  refine (spec_l01In.calls op 6 9 false _ bw).mono ?_
  rintro e v1 ⟨rfl, hb⟩
  have M1 := Aside0.mk (M0.out.step hb.below); clear hb za zb zz fz M0
  have za := M1.out.box (.tail _ (.tail _ (.head _))); have zb := M1.out.box (.tail _ (.head _)); have zz := M1.out.box (.head _); have fz := M1.out.free (.head _)
  go_wp2_with fail
  repeat (go_quiet (fail); go_wp2_with fail)
  have M9 := Aside0.mk ((((M1.out.set (A := []) 0 (.int .i64 (0)) rfl).set (A := []) 1 (.int .u64 (0)) rfl).set (A := []) 2 (.string ((⟨#[]⟩ : ByteArray))) rfl).set (A := []) 3 (.int .i64 (0)) rfl)
  refine bodyPost_ret (results_ct rfl _ _ (w.heap.size + 1 + 1) 37 #[.int .i64 (0), .int .u64 (0), .string ((⟨#[]⟩ : ByteArray)), .int .i64 (0)] (0, 0) _ rfl (M9.out.blk (.head _)) Try.underlying37 rfl (by kernel_rfl)) rfl ?_
  exact ⟨by rw [HR.out]; rfl, M9.out.below⟩
set_option maxHeartbeats 8000000 in
set_option maxRecDepth 100000 in
theorem s_type_33 (op k1 n1 r1 k2 n2 r2 : Int) (t1 t2 : ByteArray) (w : World) (hn1 : 0 ≤ n1 ∧ n1 < 18446744073709551616) (hn2 : 0 ≤ n2 ∧ n2 < 18446744073709551616) (hs1 : t1.size ≤ 1048576) (hs2 : t2.size ≤ 1048576) (a0 : (k1 == 2) = false) (a2 : (k1 == 3) = true) (a3 : (k2 == 3) = true) (b0 : (op == 10) = false) (b1 : (op == 11) = false) (b2 : (op == 1) = false) (bw : spec_l01In.f op 6 9 = some false)
    (hres : binV op k1 n1 t1 r1 k2 n2 t2 r2 = (0, 0, (⟨#[]⟩ : ByteArray), 0, (⟨#[116, 121, 112, 101]⟩ : ByteArray))) :
    Calls Try.prog 26 #[.int .i64 op, .agg #[.int .i64 k1, .int .u64 n1, .string t1, .int .i64 r1], .agg #[.int .i64 k2, .int .u64 n2, .string t2, .int .i64 r2]] w fun e w' => e = .returned (.tuple #[.agg #[.int .i64 (binV op k1 n1 t1 r1 k2 n2 t2 r2).1, .int .u64 (binV op k1 n1 t1 r1 k2 n2 t2 r2).2.1, .string (binV op k1 n1 t1 r1 k2 n2 t2 r2).2.2.1, .int .i64 (binV op k1 n1 t1 r1 k2 n2 t2 r2).2.2.2.1], .string (binV op k1 n1 t1 r1 k2 n2 t2 r2).2.2.2.2]) ∧ Below w.heap.size w w' := by
  have hu := Try.underlying37
  have HR := Aside0.mk hres; clear hres
  have M0 := Aside0.mk ((((Mem.start w).allocAt (g := w.heap.size) rfl #[.int .i64 k1, .int .u64 n1, .string t1, .int .i64 r1] 37).allocAt (g := w.heap.size + 1) (by simp) #[.int .i64 k2, .int .u64 n2, .string t2, .int .i64 r2] 37).allocAt (g := w.heap.size + 1 + 1) (by simp) #[.int .i64 0, .int .u64 0, .string (⟨#[]⟩ : ByteArray), .int .i64 0] 37)
  have za := M0.out.box (.tail _ (.tail _ (.head _))); have zb := M0.out.box (.tail _ (.head _)); have zz := M0.out.box (.head _); have fz := M0.out.free (.head _)
  have e0 : (k1 != 2) = true := by rw [bne, a0]; rfl
  go_enter Try.func26, Try.ntmps26
  go_wp2_with fail
  repeat (go_quiet (fail); go_wp2_with fail)
  refine (spec_l01In.calls op 6 9 false _ bw).mono ?_
  rintro e v1 ⟨rfl, hb⟩
  have M1 := Aside0.mk (M0.out.step hb.below); clear hb za zb zz fz M0
  have za := M1.out.box (.tail _ (.tail _ (.head _))); have zb := M1.out.box (.tail _ (.head _)); have zz := M1.out.box (.head _); have fz := M1.out.free (.head _)
  go_wp2_with fail
  repeat (go_quiet (fail); go_wp2_with fail)
  have M9 := Aside0.mk ((((M1.out.set (A := []) 0 (.int .i64 (0)) rfl).set (A := []) 1 (.int .u64 (0)) rfl).set (A := []) 2 (.string ((⟨#[]⟩ : ByteArray))) rfl).set (A := []) 3 (.int .i64 (0)) rfl)
  refine bodyPost_ret (results_ct rfl _ _ (w.heap.size + 1 + 1) 37 #[.int .i64 (0), .int .u64 (0), .string ((⟨#[]⟩ : ByteArray)), .int .i64 (0)] (0, 0) _ rfl (M9.out.blk (.head _)) Try.underlying37 rfl (by kernel_rfl)) rfl ?_
  exact ⟨by rw [HR.out]; rfl, M9.out.below⟩
set_option maxHeartbeats 8000000 in
set_option maxRecDepth 100000 in
theorem s_in_33 (op k1 n1 r1 k2 n2 r2 : Int) (t1 t2 : ByteArray) (w : World) (hn1 : 0 ≤ n1 ∧ n1 < 18446744073709551616) (hn2 : 0 ≤ n2 ∧ n2 < 18446744073709551616) (hs1 : t1.size ≤ 1048576) (hs2 : t2.size ≤ 1048576) (a0 : (k1 == 2) = false) (a2 : (k1 == 3) = true) (a3 : (k2 == 3) = true) (b0 : (op == 10) = false) (b1 : (op == 11) = false) (bw : spec_l01In.f op 6 9 = some true)
    (hres : binV op k1 n1 t1 r1 k2 n2 t2 r2 = (1, bn (ordV op (Op.bytesLess t1.toList t2.toList) (t1.toList == t2.toList) (!Op.bytesLess t1.toList t2.toList && !(t1.toList == t2.toList))), (⟨#[]⟩ : ByteArray), 0, (⟨#[]⟩ : ByteArray))) :
    Calls Try.prog 26 #[.int .i64 op, .agg #[.int .i64 k1, .int .u64 n1, .string t1, .int .i64 r1], .agg #[.int .i64 k2, .int .u64 n2, .string t2, .int .i64 r2]] w fun e w' => e = .returned (.tuple #[.agg #[.int .i64 (binV op k1 n1 t1 r1 k2 n2 t2 r2).1, .int .u64 (binV op k1 n1 t1 r1 k2 n2 t2 r2).2.1, .string (binV op k1 n1 t1 r1 k2 n2 t2 r2).2.2.1, .int .i64 (binV op k1 n1 t1 r1 k2 n2 t2 r2).2.2.2.1], .string (binV op k1 n1 t1 r1 k2 n2 t2 r2).2.2.2.2]) ∧ Below w.heap.size w w' := by
  have hu := Try.underlying37
  have HR := Aside0.mk hres; clear hres
  have M0 := Aside0.mk ((((Mem.start w).allocAt (g := w.heap.size) rfl #[.int .i64 k1, .int .u64 n1, .string t1, .int .i64 r1] 37).allocAt (g := w.heap.size + 1) (by simp) #[.int .i64 k2, .int .u64 n2, .string t2, .int .i64 r2] 37).allocAt (g := w.heap.size + 1 + 1) (by simp) #[.int .i64 0, .int .u64 0, .string (⟨#[]⟩ : ByteArray), .int .i64 0] 37)
  have za := M0.out.box (.tail _ (.tail _ (.head _))); have zb := M0.out.box (.tail _ (.head _)); have zz := M0.out.box (.head _); have fz := M0.out.free (.head _)
  go_enter Try.func26, Try.ntmps26
  go_wp2_with fail
  repeat (go_quiet (fail); go_wp2_with fail)
  refine (spec_l01In.calls op 6 9 true _ bw).mono ?_
  rintro e v1 ⟨rfl, hb⟩
  have M1 := Aside0.mk (M0.out.step hb.below); clear hb za zb zz fz M0
  have za := M1.out.box (.tail _ (.tail _ (.head _))); have zb := M1.out.box (.tail _ (.head _)); have zz := M1.out.box (.head _); have fz := M1.out.free (.head _)
  go_wp2_with fail
  repeat (go_quiet (fail); go_wp2_with fail)
  have CO := fun w => ordCS op (Op.bytesLess t1.toList t2.toList) (t1.toList == t2.toList) false w
  rw [ord_text] at CO
  refine (CO _).mono ?_
  rintro e v2 ⟨rfl, hb⟩
  have M2 := Aside0.mk (M1.out.step hb); clear hb za zb zz fz M1
  have za := M2.out.box (.tail _ (.tail _ (.head _))); have zb := M2.out.box (.tail _ (.head _)); have zz := M2.out.box (.head _); have fz := M2.out.free (.head _)
  clear CO
  go_wp2
  have M9 := Aside0.mk ((((M2.out.set (A := []) 0 (.int .i64 (1)) rfl).set (A := []) 1 (.int .u64 (bn (ordV op (Op.bytesLess t1.toList t2.toList) (t1.toList == t2.toList) (!Op.bytesLess t1.toList t2.toList && !(t1.toList == t2.toList))))) rfl).set (A := []) 2 (.string ((⟨#[]⟩ : ByteArray))) rfl).set (A := []) 3 (.int .i64 (0)) rfl)
  refine bodyPost_ret (results_ct rfl _ _ (w.heap.size + 1 + 1) 37 #[.int .i64 (1), .int .u64 (bn (ordV op (Op.bytesLess t1.toList t2.toList) (t1.toList == t2.toList) (!Op.bytesLess t1.toList t2.toList && !(t1.toList == t2.toList)))), .string ((⟨#[]⟩ : ByteArray)), .int .i64 (0)] (0, 0) _ rfl (M9.out.blk (.head _)) Try.underlying37 rfl (by kernel_rfl)) rfl ?_
  exact ⟨by rw [HR.out]; rfl, M9.out.below⟩
set_option maxHeartbeats 8000000 in
set_option maxRecDepth 100000 in
theorem s_long_33 (op k1 n1 r1 k2 n2 r2 : Int) (t1 t2 : ByteArray) (w : World) (hn1 : 0 ≤ n1 ∧ n1 < 18446744073709551616) (hn2 : 0 ≤ n2 ∧ n2 < 18446744073709551616) (hs1 : t1.size ≤ 1048576) (hs2 : t2.size ≤ 1048576) (a0 : (k1 == 2) = false) (a2 : (k1 == 3) = true) (a3 : (k2 == 3) = true) (b0 : (op == 10) = false) (b1 : (op == 11) = false) (b2 : (op == 1) = true) (bw : spec_l01In.f op 6 9 = some false) (hl : 200 < (t1.size : Int) + (t2.size : Int))
    (hres : binV op k1 n1 t1 r1 k2 n2 t2 r2 = (0, 0, (⟨#[]⟩ : ByteArray), 0, (⟨#[108, 111, 110, 103]⟩ : ByteArray))) :
    Calls Try.prog 26 #[.int .i64 op, .agg #[.int .i64 k1, .int .u64 n1, .string t1, .int .i64 r1], .agg #[.int .i64 k2, .int .u64 n2, .string t2, .int .i64 r2]] w fun e w' => e = .returned (.tuple #[.agg #[.int .i64 (binV op k1 n1 t1 r1 k2 n2 t2 r2).1, .int .u64 (binV op k1 n1 t1 r1 k2 n2 t2 r2).2.1, .string (binV op k1 n1 t1 r1 k2 n2 t2 r2).2.2.1, .int .i64 (binV op k1 n1 t1 r1 k2 n2 t2 r2).2.2.2.1], .string (binV op k1 n1 t1 r1 k2 n2 t2 r2).2.2.2.2]) ∧ Below w.heap.size w w' := by
  have hu := Try.underlying37
  have HR := Aside0.mk hres; clear hres
  have M0 := Aside0.mk ((((Mem.start w).allocAt (g := w.heap.size) rfl #[.int .i64 k1, .int .u64 n1, .string t1, .int .i64 r1] 37).allocAt (g := w.heap.size + 1) (by simp) #[.int .i64 k2, .int .u64 n2, .string t2, .int .i64 r2] 37).allocAt (g := w.heap.size + 1 + 1) (by simp) #[.int .i64 0, .int .u64 0, .string (⟨#[]⟩ : ByteArray), .int .i64 0] 37)
  have za := M0.out.box (.tail _ (.tail _ (.head _))); have zb := M0.out.box (.tail _ (.head _)); have zz := M0.out.box (.head _); have fz := M0.out.free (.head _)
  go_enter Try.func26, Try.ntmps26
  go_wp2_with fail
  repeat (go_quiet (fail); go_wp2_with fail)
  refine (spec_l01In.calls op 6 9 false _ bw).mono ?_
  rintro e v1 ⟨rfl, hb⟩
  have M1 := Aside0.mk (M0.out.step hb.below); clear hb za zb zz fz M0
  have za := M1.out.box (.tail _ (.tail _ (.head _))); have zb := M1.out.box (.tail _ (.head _)); have zz := M1.out.box (.head _); have fz := M1.out.free (.head _)
  have z2 : (t1.size : Int) ≤ 1048576 := by omega
  have z4 : (t2.size : Int) ≤ 1048576 := by omega
  go_wp2_with fail
  repeat (go_quiet (fail); go_wp2_with fail)
  have M9 := Aside0.mk ((((M1.out.set (A := []) 0 (.int .i64 (0)) rfl).set (A := []) 1 (.int .u64 (0)) rfl).set (A := []) 2 (.string ((⟨#[]⟩ : ByteArray))) rfl).set (A := []) 3 (.int .i64 (0)) rfl)
  refine bodyPost_ret (results_ct rfl _ _ (w.heap.size + 1 + 1) 37 #[.int .i64 (0), .int .u64 (0), .string ((⟨#[]⟩ : ByteArray)), .int .i64 (0)] (0, 0) _ rfl (M9.out.blk (.head _)) Try.underlying37 rfl (by kernel_rfl)) rfl ?_
  exact ⟨by rw [HR.out]; rfl, M9.out.below⟩
set_option maxHeartbeats 8000000 in
set_option maxRecDepth 100000 in
theorem s_cat_33 (op k1 n1 r1 k2 n2 r2 : Int) (t1 t2 : ByteArray) (w : World) (hn1 : 0 ≤ n1 ∧ n1 < 18446744073709551616) (hn2 : 0 ≤ n2 ∧ n2 < 18446744073709551616) (hs1 : t1.size ≤ 1048576) (hs2 : t2.size ≤ 1048576) (a0 : (k1 == 2) = false) (a2 : (k1 == 3) = true) (a3 : (k2 == 3) = true) (b0 : (op == 10) = false) (b1 : (op == 11) = false) (b2 : (op == 1) = true) (bw : spec_l01In.f op 6 9 = some false) (hl : ¬ 200 < (t1.size : Int) + (t2.size : Int))
    (hres : binV op k1 n1 t1 r1 k2 n2 t2 r2 = (3, 0, t1 ++ t2, 0, (⟨#[]⟩ : ByteArray))) :
    Calls Try.prog 26 #[.int .i64 op, .agg #[.int .i64 k1, .int .u64 n1, .string t1, .int .i64 r1], .agg #[.int .i64 k2, .int .u64 n2, .string t2, .int .i64 r2]] w fun e w' => e = .returned (.tuple #[.agg #[.int .i64 (binV op k1 n1 t1 r1 k2 n2 t2 r2).1, .int .u64 (binV op k1 n1 t1 r1 k2 n2 t2 r2).2.1, .string (binV op k1 n1 t1 r1 k2 n2 t2 r2).2.2.1, .int .i64 (binV op k1 n1 t1 r1 k2 n2 t2 r2).2.2.2.1], .string (binV op k1 n1 t1 r1 k2 n2 t2 r2).2.2.2.2]) ∧ Below w.heap.size w w' := by
  have hu := Try.underlying37
  have HR := Aside0.mk hres; clear hres
  have M0 := Aside0.mk ((((Mem.start w).allocAt (g := w.heap.size) rfl #[.int .i64 k1, .int .u64 n1, .string t1, .int .i64 r1] 37).allocAt (g := w.heap.size + 1) (by simp) #[.int .i64 k2, .int .u64 n2, .string t2, .int .i64 r2] 37).allocAt (g := w.heap.size + 1 + 1) (by simp) #[.int .i64 0, .int .u64 0, .string (⟨#[]⟩ : ByteArray), .int .i64 0] 37)
  have za := M0.out.box (.tail _ (.tail _ (.head _))); have zb := M0.out.box (.tail _ (.head _)); have zz := M0.out.box (.head _); have fz := M0.out.free (.head _)
  go_enter Try.func26, Try.ntmps26
  go_wp2_with fail
  repeat (go_quiet (fail); go_wp2_with fail)
  refine (spec_l01In.calls op 6 9 false _ bw).mono ?_
  rintro e v1 ⟨rfl, hb⟩
  have M1 := Aside0.mk (M0.out.step hb.below); clear hb za zb zz fz M0
  have za := M1.out.box (.tail _ (.tail _ (.head _))); have zb := M1.out.box (.tail _ (.head _)); have zz := M1.out.box (.head _); have fz := M1.out.free (.head _)
  have z2 : (t1.size : Int) ≤ 1048576 := by omega
  have z4 : (t2.size : Int) ≤ 1048576 := by omega
  go_wp2_with fail
  repeat (go_quiet (fail); go_wp2_with fail)
  have M9 := Aside0.mk ((((M1.out.set (A := []) 0 (.int .i64 (3)) rfl).set (A := []) 1 (.int .u64 (0)) rfl).set (A := []) 2 (.string (t1 ++ t2)) rfl).set (A := []) 3 (.int .i64 (0)) rfl)
  refine bodyPost_ret (results_ct rfl _ _ (w.heap.size + 1 + 1) 37 #[.int .i64 (3), .int .u64 (0), .string (t1 ++ t2), .int .i64 (0)] (0, 0) _ rfl (M9.out.blk (.head _)) Try.underlying37 rfl (by kernel_rfl)) rfl ?_
  exact ⟨by rw [HR.out]; rfl, M9.out.below⟩
set_option maxHeartbeats 8000000 in
set_option maxRecDepth 100000 in
theorem s_num_1 (op k1 n1 r1 k2 n2 r2 : Int) (t1 t2 : ByteArray) (w : World) (hn1 : 0 ≤ n1 ∧ n1 < 18446744073709551616) (hn2 : 0 ≤ n2 ∧ n2 < 18446744073709551616) (hs1 : t1.size ≤ 1048576) (hs2 : t2.size ≤ 1048576) (a0 : (k1 == 2) = true) (a1 : (k2 == 2) = true) (a2 : (k1 == 3) = false) (a3 : (k2 == 3) = false) (b0 : (op == 10) = false) (b1 : (op == 11) = false) (bw : spec_l01In.f op 6 9 = some false) (d1 : (op == 1) = true)
    (hres : binV op k1 n1 t1 r1 k2 n2 t2 r2 = (2, opW (double.add n1.toNat n2.toNat), (⟨#[]⟩ : ByteArray), 0, (⟨#[]⟩ : ByteArray))) :
    Calls Try.prog 26 #[.int .i64 op, .agg #[.int .i64 k1, .int .u64 n1, .string t1, .int .i64 r1], .agg #[.int .i64 k2, .int .u64 n2, .string t2, .int .i64 r2]] w fun e w' => e = .returned (.tuple #[.agg #[.int .i64 (binV op k1 n1 t1 r1 k2 n2 t2 r2).1, .int .u64 (binV op k1 n1 t1 r1 k2 n2 t2 r2).2.1, .string (binV op k1 n1 t1 r1 k2 n2 t2 r2).2.2.1, .int .i64 (binV op k1 n1 t1 r1 k2 n2 t2 r2).2.2.2.1], .string (binV op k1 n1 t1 r1 k2 n2 t2 r2).2.2.2.2]) ∧ Below w.heap.size w w' := by
  have hu := Try.underlying37
  have HR := Aside0.mk hres; clear hres
  have M0 := Aside0.mk ((((Mem.start w).allocAt (g := w.heap.size) rfl #[.int .i64 k1, .int .u64 n1, .string t1, .int .i64 r1] 37).allocAt (g := w.heap.size + 1) (by simp) #[.int .i64 k2, .int .u64 n2, .string t2, .int .i64 r2] 37).allocAt (g := w.heap.size + 1 + 1) (by simp) #[.int .i64 0, .int .u64 0, .string (⟨#[]⟩ : ByteArray), .int .i64 0] 37)
  have za := M0.out.box (.tail _ (.tail _ (.head _))); have zb := M0.out.box (.tail _ (.head _)); have zz := M0.out.box (.head _); have fz := M0.out.free (.head _)
  have e0 : (k1 != 2) = false := by rw [bne, a0]; rfl
  have e1 : (k2 != 2) = false := by rw [bne, a1]; rfl
  go_enter Try.func26, Try.ntmps26
  go_wp2_with fail
  repeat (go_quiet (fail); go_wp2_with fail)
  refine (spec_l01In.calls op 6 9 false _ bw).mono ?_
  rintro e v1 ⟨rfl, hb⟩
  have M1 := Aside0.mk (M0.out.step hb.below); clear hb za zb zz fz M0
  have za := M1.out.box (.tail _ (.tail _ (.head _))); have zb := M1.out.box (.tail _ (.head _)); have zz := M1.out.box (.head _); have fz := M1.out.free (.head _)
  go_wp2_with fail
  repeat (go_quiet (fail); go_wp2_with fail)
  refine (addS n1 n2 hn1 hn2 _).mono ?_
  rintro e v2 ⟨rfl, hb⟩
  have M2 := Aside0.mk (M1.out.step hb); clear hb za zb zz fz M1
  have za := M2.out.box (.tail _ (.tail _ (.head _))); have zb := M2.out.box (.tail _ (.head _)); have zz := M2.out.box (.head _); have fz := M2.out.free (.head _)
  go_wp2_with fail
  repeat (go_quiet (fail); go_wp2_with fail)
  refine (numS _ _).mono ?_
  rintro e v3 ⟨rfl, hb⟩
  have M3 := Aside0.mk (M2.out.step hb); clear hb za zb zz fz M2
  have za := M3.out.box (.tail _ (.tail _ (.head _))); have zb := M3.out.box (.tail _ (.head _)); have zz := M3.out.box (.head _); have fz := M3.out.free (.head _)
  go_wp2
  have M9 := Aside0.mk ((((M3.out.set (A := []) 0 (.int .i64 (2)) rfl).set (A := []) 1 (.int .u64 (opW (double.add n1.toNat n2.toNat))) rfl).set (A := []) 2 (.string ((⟨#[]⟩ : ByteArray))) rfl).set (A := []) 3 (.int .i64 (0)) rfl)
  refine bodyPost_ret (results_ct rfl _ _ (w.heap.size + 1 + 1) 37 #[.int .i64 (2), .int .u64 (opW (double.add n1.toNat n2.toNat)), .string ((⟨#[]⟩ : ByteArray)), .int .i64 (0)] (0, 0) _ rfl (M9.out.blk (.head _)) Try.underlying37 rfl (by kernel_rfl)) rfl ?_
  exact ⟨by rw [HR.out]; rfl, M9.out.below⟩
set_option maxHeartbeats 8000000 in
set_option maxRecDepth 100000 in
theorem s_num_2 (op k1 n1 r1 k2 n2 r2 : Int) (t1 t2 : ByteArray) (w : World) (hn1 : 0 ≤ n1 ∧ n1 < 18446744073709551616) (hn2 : 0 ≤ n2 ∧ n2 < 18446744073709551616) (hs1 : t1.size ≤ 1048576) (hs2 : t2.size ≤ 1048576) (a0 : (k1 == 2) = true) (a1 : (k2 == 2) = true) (a2 : (k1 == 3) = false) (a3 : (k2 == 3) = false) (b0 : (op == 10) = false) (b1 : (op == 11) = false) (bw : spec_l01In.f op 6 9 = some false) (d1 : (op == 1) = false) (d2 : (op == 2) = true)
    (hres : binV op k1 n1 t1 r1 k2 n2 t2 r2 = (2, opW (double.add n1.toNat (negW n2).toNat), (⟨#[]⟩ : ByteArray), 0, (⟨#[]⟩ : ByteArray))) :
    Calls Try.prog 26 #[.int .i64 op, .agg #[.int .i64 k1, .int .u64 n1, .string t1, .int .i64 r1], .agg #[.int .i64 k2, .int .u64 n2, .string t2, .int .i64 r2]] w fun e w' => e = .returned (.tuple #[.agg #[.int .i64 (binV op k1 n1 t1 r1 k2 n2 t2 r2).1, .int .u64 (binV op k1 n1 t1 r1 k2 n2 t2 r2).2.1, .string (binV op k1 n1 t1 r1 k2 n2 t2 r2).2.2.1, .int .i64 (binV op k1 n1 t1 r1 k2 n2 t2 r2).2.2.2.1], .string (binV op k1 n1 t1 r1 k2 n2 t2 r2).2.2.2.2]) ∧ Below w.heap.size w w' := by
  have hu := Try.underlying37
  have HR := Aside0.mk hres; clear hres
  have M0 := Aside0.mk ((((Mem.start w).allocAt (g := w.heap.size) rfl #[.int .i64 k1, .int .u64 n1, .string t1, .int .i64 r1] 37).allocAt (g := w.heap.size + 1) (by simp) #[.int .i64 k2, .int .u64 n2, .string t2, .int .i64 r2] 37).allocAt (g := w.heap.size + 1 + 1) (by simp) #[.int .i64 0, .int .u64 0, .string (⟨#[]⟩ : ByteArray), .int .i64 0] 37)
  have za := M0.out.box (.tail _ (.tail _ (.head _))); have zb := M0.out.box (.tail _ (.head _)); have zz := M0.out.box (.head _); have fz := M0.out.free (.head _)
  have e0 : (k1 != 2) = false := by rw [bne, a0]; rfl
  have e1 : (k2 != 2) = false := by rw [bne, a1]; rfl
  go_enter Try.func26, Try.ntmps26
  go_wp2_with fail
  repeat (go_quiet (fail); go_wp2_with fail)
  refine (spec_l01In.calls op 6 9 false _ bw).mono ?_
  rintro e v1 ⟨rfl, hb⟩
  have M1 := Aside0.mk (M0.out.step hb.below); clear hb za zb zz fz M0
  have za := M1.out.box (.tail _ (.tail _ (.head _))); have zb := M1.out.box (.tail _ (.head _)); have zz := M1.out.box (.head _); have fz := M1.out.free (.head _)
  go_wp2_with fail
  repeat (go_quiet (fail); go_wp2_with fail)
  refine (subS n1 n2 hn1 hn2 _).mono ?_
  rintro e v2 ⟨rfl, hb⟩
  have M2 := Aside0.mk (M1.out.step hb); clear hb za zb zz fz M1
  have za := M2.out.box (.tail _ (.tail _ (.head _))); have zb := M2.out.box (.tail _ (.head _)); have zz := M2.out.box (.head _); have fz := M2.out.free (.head _)
  go_wp2_with fail
  repeat (go_quiet (fail); go_wp2_with fail)
  refine (numS _ _).mono ?_
  rintro e v3 ⟨rfl, hb⟩
  have M3 := Aside0.mk (M2.out.step hb); clear hb za zb zz fz M2
  have za := M3.out.box (.tail _ (.tail _ (.head _))); have zb := M3.out.box (.tail _ (.head _)); have zz := M3.out.box (.head _); have fz := M3.out.free (.head _)
  go_wp2
  have M9 := Aside0.mk ((((M3.out.set (A := []) 0 (.int .i64 (2)) rfl).set (A := []) 1 (.int .u64 (opW (double.add n1.toNat (negW n2).toNat))) rfl).set (A := []) 2 (.string ((⟨#[]⟩ : ByteArray))) rfl).set (A := []) 3 (.int .i64 (0)) rfl)
  refine bodyPost_ret (results_ct rfl _ _ (w.heap.size + 1 + 1) 37 #[.int .i64 (2), .int .u64 (opW (double.add n1.toNat (negW n2).toNat)), .string ((⟨#[]⟩ : ByteArray)), .int .i64 (0)] (0, 0) _ rfl (M9.out.blk (.head _)) Try.underlying37 rfl (by kernel_rfl)) rfl ?_
  exact ⟨by rw [HR.out]; rfl, M9.out.below⟩
set_option maxHeartbeats 8000000 in
set_option maxRecDepth 100000 in
theorem s_num_3 (op k1 n1 r1 k2 n2 r2 : Int) (t1 t2 : ByteArray) (w : World) (hn1 : 0 ≤ n1 ∧ n1 < 18446744073709551616) (hn2 : 0 ≤ n2 ∧ n2 < 18446744073709551616) (hs1 : t1.size ≤ 1048576) (hs2 : t2.size ≤ 1048576) (a0 : (k1 == 2) = true) (a1 : (k2 == 2) = true) (a2 : (k1 == 3) = false) (a3 : (k2 == 3) = false) (b0 : (op == 10) = false) (b1 : (op == 11) = false) (bw : spec_l01In.f op 6 9 = some false) (d1 : (op == 1) = false) (d2 : (op == 2) = false) (d3 : (op == 3) = true)
    (hres : binV op k1 n1 t1 r1 k2 n2 t2 r2 = (2, opW (double.mul n1.toNat n2.toNat), (⟨#[]⟩ : ByteArray), 0, (⟨#[]⟩ : ByteArray))) :
    Calls Try.prog 26 #[.int .i64 op, .agg #[.int .i64 k1, .int .u64 n1, .string t1, .int .i64 r1], .agg #[.int .i64 k2, .int .u64 n2, .string t2, .int .i64 r2]] w fun e w' => e = .returned (.tuple #[.agg #[.int .i64 (binV op k1 n1 t1 r1 k2 n2 t2 r2).1, .int .u64 (binV op k1 n1 t1 r1 k2 n2 t2 r2).2.1, .string (binV op k1 n1 t1 r1 k2 n2 t2 r2).2.2.1, .int .i64 (binV op k1 n1 t1 r1 k2 n2 t2 r2).2.2.2.1], .string (binV op k1 n1 t1 r1 k2 n2 t2 r2).2.2.2.2]) ∧ Below w.heap.size w w' := by
  have hu := Try.underlying37
  have HR := Aside0.mk hres; clear hres
  have M0 := Aside0.mk ((((Mem.start w).allocAt (g := w.heap.size) rfl #[.int .i64 k1, .int .u64 n1, .string t1, .int .i64 r1] 37).allocAt (g := w.heap.size + 1) (by simp) #[.int .i64 k2, .int .u64 n2, .string t2, .int .i64 r2] 37).allocAt (g := w.heap.size + 1 + 1) (by simp) #[.int .i64 0, .int .u64 0, .string (⟨#[]⟩ : ByteArray), .int .i64 0] 37)
  have za := M0.out.box (.tail _ (.tail _ (.head _))); have zb := M0.out.box (.tail _ (.head _)); have zz := M0.out.box (.head _); have fz := M0.out.free (.head _)
  have e0 : (k1 != 2) = false := by rw [bne, a0]; rfl
  have e1 : (k2 != 2) = false := by rw [bne, a1]; rfl
  go_enter Try.func26, Try.ntmps26
  go_wp2_with fail
  repeat (go_quiet (fail); go_wp2_with fail)
  refine (spec_l01In.calls op 6 9 false _ bw).mono ?_
  rintro e v1 ⟨rfl, hb⟩
  have M1 := Aside0.mk (M0.out.step hb.below); clear hb za zb zz fz M0
  have za := M1.out.box (.tail _ (.tail _ (.head _))); have zb := M1.out.box (.tail _ (.head _)); have zz := M1.out.box (.head _); have fz := M1.out.free (.head _)
  go_wp2_with fail
  repeat (go_quiet (fail); go_wp2_with fail)
  refine (mulS n1 n2 hn1 hn2 _).mono ?_
  rintro e v2 ⟨rfl, hb⟩
  have M2 := Aside0.mk (M1.out.step hb); clear hb za zb zz fz M1
  have za := M2.out.box (.tail _ (.tail _ (.head _))); have zb := M2.out.box (.tail _ (.head _)); have zz := M2.out.box (.head _); have fz := M2.out.free (.head _)
  go_wp2_with fail
  repeat (go_quiet (fail); go_wp2_with fail)
  refine (numS _ _).mono ?_
  rintro e v3 ⟨rfl, hb⟩
  have M3 := Aside0.mk (M2.out.step hb); clear hb za zb zz fz M2
  have za := M3.out.box (.tail _ (.tail _ (.head _))); have zb := M3.out.box (.tail _ (.head _)); have zz := M3.out.box (.head _); have fz := M3.out.free (.head _)
  go_wp2
  have M9 := Aside0.mk ((((M3.out.set (A := []) 0 (.int .i64 (2)) rfl).set (A := []) 1 (.int .u64 (opW (double.mul n1.toNat n2.toNat))) rfl).set (A := []) 2 (.string ((⟨#[]⟩ : ByteArray))) rfl).set (A := []) 3 (.int .i64 (0)) rfl)
  refine bodyPost_ret (results_ct rfl _ _ (w.heap.size + 1 + 1) 37 #[.int .i64 (2), .int .u64 (opW (double.mul n1.toNat n2.toNat)), .string ((⟨#[]⟩ : ByteArray)), .int .i64 (0)] (0, 0) _ rfl (M9.out.blk (.head _)) Try.underlying37 rfl (by kernel_rfl)) rfl ?_
  exact ⟨by rw [HR.out]; rfl, M9.out.below⟩
set_option maxHeartbeats 8000000 in
set_option maxRecDepth 100000 in
theorem s_num_4 (op k1 n1 r1 k2 n2 r2 : Int) (t1 t2 : ByteArray) (w : World) (hn1 : 0 ≤ n1 ∧ n1 < 18446744073709551616) (hn2 : 0 ≤ n2 ∧ n2 < 18446744073709551616) (hs1 : t1.size ≤ 1048576) (hs2 : t2.size ≤ 1048576) (a0 : (k1 == 2) = true) (a1 : (k2 == 2) = true) (a2 : (k1 == 3) = false) (a3 : (k2 == 3) = false) (b0 : (op == 10) = false) (b1 : (op == 11) = false) (bw : spec_l01In.f op 6 9 = some false) (d1 : (op == 1) = false) (d2 : (op == 2) = false) (d3 : (op == 3) = false) (d4 : (op == 4) = true)
    (hres : binV op k1 n1 t1 r1 k2 n2 t2 r2 = (2, opW (double.div n1.toNat n2.toNat), (⟨#[]⟩ : ByteArray), 0, (⟨#[]⟩ : ByteArray))) :
    Calls Try.prog 26 #[.int .i64 op, .agg #[.int .i64 k1, .int .u64 n1, .string t1, .int .i64 r1], .agg #[.int .i64 k2, .int .u64 n2, .string t2, .int .i64 r2]] w fun e w' => e = .returned (.tuple #[.agg #[.int .i64 (binV op k1 n1 t1 r1 k2 n2 t2 r2).1, .int .u64 (binV op k1 n1 t1 r1 k2 n2 t2 r2).2.1, .string (binV op k1 n1 t1 r1 k2 n2 t2 r2).2.2.1, .int .i64 (binV op k1 n1 t1 r1 k2 n2 t2 r2).2.2.2.1], .string (binV op k1 n1 t1 r1 k2 n2 t2 r2).2.2.2.2]) ∧ Below w.heap.size w w' := by
  have hu := Try.underlying37
  have HR := Aside0.mk hres; clear hres
  have M0 := Aside0.mk ((((Mem.start w).allocAt (g := w.heap.size) rfl #[.int .i64 k1, .int .u64 n1, .string t1, .int .i64 r1] 37).allocAt (g := w.heap.size + 1) (by simp) #[.int .i64 k2, .int .u64 n2, .string t2, .int .i64 r2] 37).allocAt (g := w.heap.size + 1 + 1) (by simp) #[.int .i64 0, .int .u64 0, .string (⟨#[]⟩ : ByteArray), .int .i64 0] 37)
  have za := M0.out.box (.tail _ (.tail _ (.head _))); have zb := M0.out.box (.tail _ (.head _)); have zz := M0.out.box (.head _); have fz := M0.out.free (.head _)
  have e0 : (k1 != 2) = false := by rw [bne, a0]; rfl
  have e1 : (k2 != 2) = false := by rw [bne, a1]; rfl
  go_enter Try.func26, Try.ntmps26
  go_wp2_with fail
  repeat (go_quiet (fail); go_wp2_with fail)
  refine (spec_l01In.calls op 6 9 false _ bw).mono ?_
  rintro e v1 ⟨rfl, hb⟩
  have M1 := Aside0.mk (M0.out.step hb.below); clear hb za zb zz fz M0
  have za := M1.out.box (.tail _ (.tail _ (.head _))); have zb := M1.out.box (.tail _ (.head _)); have zz := M1.out.box (.head _); have fz := M1.out.free (.head _)
  go_wp2_with fail
  repeat (go_quiet (fail); go_wp2_with fail)
  refine (divS n1 n2 hn1 hn2 _).mono ?_
  rintro e v2 ⟨rfl, hb⟩
  have M2 := Aside0.mk (M1.out.step hb); clear hb za zb zz fz M1
  have za := M2.out.box (.tail _ (.tail _ (.head _))); have zb := M2.out.box (.tail _ (.head _)); have zz := M2.out.box (.head _); have fz := M2.out.free (.head _)
  go_wp2_with fail
  repeat (go_quiet (fail); go_wp2_with fail)
  refine (numS _ _).mono ?_
  rintro e v3 ⟨rfl, hb⟩
  have M3 := Aside0.mk (M2.out.step hb); clear hb za zb zz fz M2
  have za := M3.out.box (.tail _ (.tail _ (.head _))); have zb := M3.out.box (.tail _ (.head _)); have zz := M3.out.box (.head _); have fz := M3.out.free (.head _)
  go_wp2
  have M9 := Aside0.mk ((((M3.out.set (A := []) 0 (.int .i64 (2)) rfl).set (A := []) 1 (.int .u64 (opW (double.div n1.toNat n2.toNat))) rfl).set (A := []) 2 (.string ((⟨#[]⟩ : ByteArray))) rfl).set (A := []) 3 (.int .i64 (0)) rfl)
  refine bodyPost_ret (results_ct rfl _ _ (w.heap.size + 1 + 1) 37 #[.int .i64 (2), .int .u64 (opW (double.div n1.toNat n2.toNat)), .string ((⟨#[]⟩ : ByteArray)), .int .i64 (0)] (0, 0) _ rfl (M9.out.blk (.head _)) Try.underlying37 rfl (by kernel_rfl)) rfl ?_
  exact ⟨by rw [HR.out]; rfl, M9.out.below⟩
set_option maxHeartbeats 8000000 in
set_option maxRecDepth 100000 in
theorem s_num_5 (op k1 n1 r1 k2 n2 r2 : Int) (t1 t2 : ByteArray) (w : World) (hn1 : 0 ≤ n1 ∧ n1 < 18446744073709551616) (hn2 : 0 ≤ n2 ∧ n2 < 18446744073709551616) (hs1 : t1.size ≤ 1048576) (hs2 : t2.size ≤ 1048576) (a0 : (k1 == 2) = true) (a1 : (k2 == 2) = true) (a2 : (k1 == 3) = false) (a3 : (k2 == 3) = false) (b0 : (op == 10) = false) (b1 : (op == 11) = false) (bw : spec_l01In.f op 6 9 = some false) (d1 : (op == 1) = false) (d2 : (op == 2) = false) (d3 : (op == 3) = false) (d4 : (op == 4) = false) (d5 : (op == 5) = true)
    (hres : binV op k1 n1 t1 r1 k2 n2 t2 r2 = (2, remI n1.toNat n2.toNat, (⟨#[]⟩ : ByteArray), 0, (⟨#[]⟩ : ByteArray))) :
    Calls Try.prog 26 #[.int .i64 op, .agg #[.int .i64 k1, .int .u64 n1, .string t1, .int .i64 r1], .agg #[.int .i64 k2, .int .u64 n2, .string t2, .int .i64 r2]] w fun e w' => e = .returned (.tuple #[.agg #[.int .i64 (binV op k1 n1 t1 r1 k2 n2 t2 r2).1, .int .u64 (binV op k1 n1 t1 r1 k2 n2 t2 r2).2.1, .string (binV op k1 n1 t1 r1 k2 n2 t2 r2).2.2.1, .int .i64 (binV op k1 n1 t1 r1 k2 n2 t2 r2).2.2.2.1], .string (binV op k1 n1 t1 r1 k2 n2 t2 r2).2.2.2.2]) ∧ Below w.heap.size w w' := by
  have hu := Try.underlying37
  have HR := Aside0.mk hres; clear hres
  have M0 := Aside0.mk ((((Mem.start w).allocAt (g := w.heap.size) rfl #[.int .i64 k1, .int .u64 n1, .string t1, .int .i64 r1] 37).allocAt (g := w.heap.size + 1) (by simp) #[.int .i64 k2, .int .u64 n2, .string t2, .int .i64 r2] 37).allocAt (g := w.heap.size + 1 + 1) (by simp) #[.int .i64 0, .int .u64 0, .string (⟨#[]⟩ : ByteArray), .int .i64 0] 37)
  have za := M0.out.box (.tail _ (.tail _ (.head _))); have zb := M0.out.box (.tail _ (.head _)); have zz := M0.out.box (.head _); have fz := M0.out.free (.head _)
  have e0 : (k1 != 2) = false := by rw [bne, a0]; rfl
  have e1 : (k2 != 2) = false := by rw [bne, a1]; rfl
  go_enter Try.func26, Try.ntmps26
  go_wp2_with fail
  repeat (go_quiet (fail); go_wp2_with fail)
  refine (spec_l01In.calls op 6 9 false _ bw).mono ?_
  rintro e v1 ⟨rfl, hb⟩
  have M1 := Aside0.mk (M0.out.step hb.below); clear hb za zb zz fz M0
  have za := M1.out.box (.tail _ (.tail _ (.head _))); have zb := M1.out.box (.tail _ (.head _)); have zz := M1.out.box (.head _); have fz := M1.out.free (.head _)
  go_wp2_with fail
  repeat (go_quiet (fail); go_wp2_with fail)
  refine (remS n1 n2 hn1 hn2 _).mono ?_
  rintro e v2 ⟨rfl, hb⟩
  have M2 := Aside0.mk (M1.out.step hb); clear hb za zb zz fz M1
  have za := M2.out.box (.tail _ (.tail _ (.head _))); have zb := M2.out.box (.tail _ (.head _)); have zz := M2.out.box (.head _); have fz := M2.out.free (.head _)
  go_wp2_with fail
  repeat (go_quiet (fail); go_wp2_with fail)
  refine (numS _ _).mono ?_
  rintro e v3 ⟨rfl, hb⟩
  have M3 := Aside0.mk (M2.out.step hb); clear hb za zb zz fz M2
  have za := M3.out.box (.tail _ (.tail _ (.head _))); have zb := M3.out.box (.tail _ (.head _)); have zz := M3.out.box (.head _); have fz := M3.out.free (.head _)
  go_wp2
  have M9 := Aside0.mk ((((M3.out.set (A := []) 0 (.int .i64 (2)) rfl).set (A := []) 1 (.int .u64 (remI n1.toNat n2.toNat)) rfl).set (A := []) 2 (.string ((⟨#[]⟩ : ByteArray))) rfl).set (A := []) 3 (.int .i64 (0)) rfl)
  refine bodyPost_ret (results_ct rfl _ _ (w.heap.size + 1 + 1) 37 #[.int .i64 (2), .int .u64 (remI n1.toNat n2.toNat), .string ((⟨#[]⟩ : ByteArray)), .int .i64 (0)] (0, 0) _ rfl (M9.out.blk (.head _)) Try.underlying37 rfl (by kernel_rfl)) rfl ?_
  exact ⟨by rw [HR.out]; rfl, M9.out.below⟩
set_option maxHeartbeats 8000000 in
set_option maxRecDepth 100000 in
theorem s_num_no (op k1 n1 r1 k2 n2 r2 : Int) (t1 t2 : ByteArray) (w : World) (hn1 : 0 ≤ n1 ∧ n1 < 18446744073709551616) (hn2 : 0 ≤ n2 ∧ n2 < 18446744073709551616) (hs1 : t1.size ≤ 1048576) (hs2 : t2.size ≤ 1048576) (a0 : (k1 == 2) = true) (a1 : (k2 == 2) = true) (a2 : (k1 == 3) = false) (a3 : (k2 == 3) = false) (b0 : (op == 10) = false) (b1 : (op == 11) = false) (bw : spec_l01In.f op 6 9 = some false) (d1 : (op == 1) = false) (d2 : (op == 2) = false) (d3 : (op == 3) = false) (d4 : (op == 4) = false) (d5 : (op == 5) = false)
    (hres : binV op k1 n1 t1 r1 k2 n2 t2 r2 = (0, 0, (⟨#[]⟩ : ByteArray), 0, (⟨#[116, 121, 112, 101]⟩ : ByteArray))) :
    Calls Try.prog 26 #[.int .i64 op, .agg #[.int .i64 k1, .int .u64 n1, .string t1, .int .i64 r1], .agg #[.int .i64 k2, .int .u64 n2, .string t2, .int .i64 r2]] w fun e w' => e = .returned (.tuple #[.agg #[.int .i64 (binV op k1 n1 t1 r1 k2 n2 t2 r2).1, .int .u64 (binV op k1 n1 t1 r1 k2 n2 t2 r2).2.1, .string (binV op k1 n1 t1 r1 k2 n2 t2 r2).2.2.1, .int .i64 (binV op k1 n1 t1 r1 k2 n2 t2 r2).2.2.2.1], .string (binV op k1 n1 t1 r1 k2 n2 t2 r2).2.2.2.2]) ∧ Below w.heap.size w w' := by
  have hu := Try.underlying37
  have HR := Aside0.mk hres; clear hres
  have M0 := Aside0.mk ((((Mem.start w).allocAt (g := w.heap.size) rfl #[.int .i64 k1, .int .u64 n1, .string t1, .int .i64 r1] 37).allocAt (g := w.heap.size + 1) (by simp) #[.int .i64 k2, .int .u64 n2, .string t2, .int .i64 r2] 37).allocAt (g := w.heap.size + 1 + 1) (by simp) #[.int .i64 0, .int .u64 0, .string (⟨#[]⟩ : ByteArray), .int .i64 0] 37)
  have za := M0.out.box (.tail _ (.tail _ (.head _))); have zb := M0.out.box (.tail _ (.head _)); have zz := M0.out.box (.head _); have fz := M0.out.free (.head _)
  have e0 : (k1 != 2) = false := by rw [bne, a0]; rfl
  have e1 : (k2 != 2) = false := by rw [bne, a1]; rfl
  go_enter Try.func26, Try.ntmps26
  go_wp2_with fail
  repeat (go_quiet (fail); go_wp2_with fail)
  refine (spec_l01In.calls op 6 9 false _ bw).mono ?_
  rintro e v1 ⟨rfl, hb⟩
  have M1 := Aside0.mk (M0.out.step hb.below); clear hb za zb zz fz M0
  have za := M1.out.box (.tail _ (.tail _ (.head _))); have zb := M1.out.box (.tail _ (.head _)); have zz := M1.out.box (.head _); have fz := M1.out.free (.head _)
  go_wp2_with fail
  repeat (go_quiet (fail); go_wp2_with fail)
  have M9 := Aside0.mk ((((M1.out.set (A := []) 0 (.int .i64 (0)) rfl).set (A := []) 1 (.int .u64 (0)) rfl).set (A := []) 2 (.string ((⟨#[]⟩ : ByteArray))) rfl).set (A := []) 3 (.int .i64 (0)) rfl)
  refine bodyPost_ret (results_ct rfl _ _ (w.heap.size + 1 + 1) 37 #[.int .i64 (0), .int .u64 (0), .string ((⟨#[]⟩ : ByteArray)), .int .i64 (0)] (0, 0) _ rfl (M9.out.blk (.head _)) Try.underlying37 rfl (by kernel_rfl)) rfl ?_
  exact ⟨by rw [HR.out]; rfl, M9.out.below⟩
set_option maxHeartbeats 8000000 in
set_option maxRecDepth 100000 in
theorem s_in_22_t (op k1 n1 r1 k2 n2 r2 : Int) (t1 t2 : ByteArray) (w : World) (hn1 : 0 ≤ n1 ∧ n1 < 18446744073709551616) (hn2 : 0 ≤ n2 ∧ n2 < 18446744073709551616) (hs1 : t1.size ≤ 1048576) (hs2 : t2.size ≤ 1048576) (a0 : (k1 == 2) = true) (a1 : (k2 == 2) = true) (a2 : (k1 == 3) = false) (a3 : (k2 == 3) = false) (b0 : (op == 10) = false) (b1 : (op == 11) = false) (bw : spec_l01In.f op 6 9 = some true) (hna : isNan n1 = true)
    (hres : binV op k1 n1 t1 r1 k2 n2 t2 r2 = (1, bn (ordV op (double.order n1.toNat n2.toNat == some .lt) (double.order n1.toNat n2.toNat == some .eq) (double.order n2.toNat n1.toNat == some .lt)), (⟨#[]⟩ : ByteArray), 0, (⟨#[]⟩ : ByteArray))) :
    Calls Try.prog 26 #[.int .i64 op, .agg #[.int .i64 k1, .int .u64 n1, .string t1, .int .i64 r1], .agg #[.int .i64 k2, .int .u64 n2, .string t2, .int .i64 r2]] w fun e w' => e = .returned (.tuple #[.agg #[.int .i64 (binV op k1 n1 t1 r1 k2 n2 t2 r2).1, .int .u64 (binV op k1 n1 t1 r1 k2 n2 t2 r2).2.1, .string (binV op k1 n1 t1 r1 k2 n2 t2 r2).2.2.1, .int .i64 (binV op k1 n1 t1 r1 k2 n2 t2 r2).2.2.2.1], .string (binV op k1 n1 t1 r1 k2 n2 t2 r2).2.2.2.2]) ∧ Below w.heap.size w w' := by
  have hu := Try.underlying37
  have HR := Aside0.mk hres; clear hres
  have M0 := Aside0.mk ((((Mem.start w).allocAt (g := w.heap.size) rfl #[.int .i64 k1, .int .u64 n1, .string t1, .int .i64 r1] 37).allocAt (g := w.heap.size + 1) (by simp) #[.int .i64 k2, .int .u64 n2, .string t2, .int .i64 r2] 37).allocAt (g := w.heap.size + 1 + 1) (by simp) #[.int .i64 0, .int .u64 0, .string (⟨#[]⟩ : ByteArray), .int .i64 0] 37)
  have za := M0.out.box (.tail _ (.tail _ (.head _))); have zb := M0.out.box (.tail _ (.head _)); have zz := M0.out.box (.head _); have fz := M0.out.free (.head _)
  have e0 : (k1 != 2) = false := by rw [bne, a0]; rfl
  have e1 : (k2 != 2) = false := by rw [bne, a1]; rfl
  have HON := Aside0.mk (ord_num op hn1 hn2)
  rw [hna, Bool.true_or] at HON
  go_enter Try.func26, Try.ntmps26
  go_wp2_with fail
  repeat (go_quiet (fail); go_wp2_with fail)
  refine (spec_l01In.calls op 6 9 true _ bw).mono ?_
  rintro e v1 ⟨rfl, hb⟩
  have M1 := Aside0.mk (M0.out.step hb.below); clear hb za zb zz fz M0
  have za := M1.out.box (.tail _ (.tail _ (.head _))); have zb := M1.out.box (.tail _ (.head _)); have zz := M1.out.box (.head _); have fz := M1.out.free (.head _)
  go_upto_region 16 with fail
  clear za zb zz fz
  have MD := Aside0.mk M1.out.drew; clear M1
  refine sz 22 (fun W => W.cell? ⟨w.heap.size, 1, none⟩ = some (.int .u64 n1) ∧ W.cell? ⟨w.heap.size + 1, 1, none⟩ = some (.int .u64 n2)) [20] dobS.tab16 dobS.bits16 ⟨(MD.out.box (.tail _ (.tail _ (.head _))) 1).trans rfl, (MD.out.box (.tail _ (.head _)) 1).trans rfl⟩ (fun HT_ HW_ hHeld => ?_)
  generalize v1.drew = wd at MD hHeld ⊢
  refine pz 0 76 ?_; refine pz 1 77 ?_; refine pz 3 79 ?_; refine pz 6 82 ?_; refine pz 8 84 ?_; refine pz 11 87 ?_; refine tz 2 78 ?_; refine tz 4 80 ?_; refine tz 7 83 ?_; refine tz 9 85 ?_; refine tz 12 88 ?_
  refine ez 5 (some 81) (fun K hK => ?_)
  refine gz Try.func19 #[.int .u64 n1, .int .u64 n2] ?_
  refine (lessS n1 n2 hn1 hn2 _).mono ?_; rintro e vv1 ⟨rfl, hb⟩
  have ME1 := Aside0.mk (MD.out.step hb); clear hb MD
  refine ⟨_, rfl, ?_⟩
  refine hK.out _ _ ⟨(ME1.out.box (.tail _ (.tail _ (.head _))) 1).trans rfl, (ME1.out.box (.tail _ (.head _)) 1).trans rfl⟩ (fun hHeld => ?_); clear hK K; refine kz (some 81) ?_
  refine ez 10 (some 86) (fun K hK => ?_)
  refine gz Try.func13 #[.int .u64 n1, .int .u64 n2] ?_
  refine (equalS n1 n2 hn1 hn2 _).mono ?_; rintro e vv2 ⟨rfl, hb⟩
  have ME2 := Aside0.mk (ME1.out.step hb); clear hb ME1
  refine ⟨_, rfl, ?_⟩
  refine hK.out _ _ ⟨(ME2.out.box (.tail _ (.tail _ (.head _))) 1).trans rfl, (ME2.out.box (.tail _ (.head _)) 1).trans rfl⟩ (fun hHeld => ?_); clear hK K; refine kz (some 86) ?_
  refine ez 13 (some 89) (fun K hK => ?_)
  refine gz Try.func36 #[.int .u64 n1] ?_
  have CN := fun w => nanS n1 hn1 w
  rw [hna] at CN
  refine (CN _).mono ?_; rintro e vv3 ⟨rfl, hb⟩
  have ME3 := Aside0.mk (ME2.out.step hb); clear hb ME2
  clear CN
  refine ⟨_, rfl, ?_⟩
  refine hK.out _ _ ⟨(ME3.out.box (.tail _ (.tail _ (.head _))) 1).trans rfl, (ME3.out.box (.tail _ (.head _)) 1).trans rfl⟩ (fun hHeld => ?_); clear hK K; refine kz (some 89) ?_
  refine pz 14 90 ?_; refine oz 15 91 ?_; refine oz 16 92 ?_; refine oz 17 93 ?_; refine pz 18 94 ?_
  refine ez 19 (some 95) (fun K hK => ?_)
  refine gz Try.func60 #[.int .i64 op, .bool (double.order n1.toNat n2.toNat == some .lt), .bool (double.order n1.toNat n2.toNat == some .eq), .bool true] ?_
  have CO := fun w => ordCS op (double.order n1.toNat n2.toNat == some .lt) (double.order n1.toNat n2.toNat == some .eq) true w
  rw [HON.out] at CO
  refine (CO _).mono ?_; rintro e vv9 ⟨rfl, hb⟩
  have MC := Aside0.mk (ME3.out.step hb); clear hb CO ME3
  have zz := MC.out.box (.head _); have fz := MC.out.free (.head _)
  refine ⟨_, rfl, ?_⟩
  refine hK.out _ _ ⟨(MC.out.box (.tail _ (.tail _ (.head _))) 1).trans rfl, (MC.out.box (.tail _ (.head _)) 1).trans rfl⟩ (fun hHeld => ?_); clear hK K; refine kz (some 95) ?_
  refine lz 20 none (fun K hK => ?_)
  refine skip_ (w1 := ?_) (by rfl) rfl ?_ ?_
  rotate_left
  · go_simp
    rfl
  refine hK.out _ _ ?_; clear hK K
  refine pz 21 7 ?_
  refine dz ?_
  go_wp2
  have M9 := Aside0.mk ((((MC.out.set (A := []) 0 (.int .i64 (1)) rfl).set (A := []) 1 (.int .u64 (bn (ordV op (double.order n1.toNat n2.toNat == some .lt) (double.order n1.toNat n2.toNat == some .eq) (double.order n2.toNat n1.toNat == some .lt)))) rfl).set (A := []) 2 (.string ((⟨#[]⟩ : ByteArray))) rfl).set (A := []) 3 (.int .i64 (0)) rfl)
  refine bodyPost_ret (results_ct rfl _ _ (w.heap.size + 1 + 1) 37 #[.int .i64 (1), .int .u64 (bn (ordV op (double.order n1.toNat n2.toNat == some .lt) (double.order n1.toNat n2.toNat == some .eq) (double.order n2.toNat n1.toNat == some .lt))), .string ((⟨#[]⟩ : ByteArray)), .int .i64 (0)] (0, 0) _ rfl (M9.out.blk (.head _)) Try.underlying37 rfl (by kernel_rfl)) rfl ?_
  exact ⟨by rw [HR.out]; rfl, M9.out.below⟩
set_option maxHeartbeats 8000000 in
set_option maxRecDepth 100000 in
theorem s_in_22_f (op k1 n1 r1 k2 n2 r2 : Int) (t1 t2 : ByteArray) (w : World) (hn1 : 0 ≤ n1 ∧ n1 < 18446744073709551616) (hn2 : 0 ≤ n2 ∧ n2 < 18446744073709551616) (hs1 : t1.size ≤ 1048576) (hs2 : t2.size ≤ 1048576) (a0 : (k1 == 2) = true) (a1 : (k2 == 2) = true) (a2 : (k1 == 3) = false) (a3 : (k2 == 3) = false) (b0 : (op == 10) = false) (b1 : (op == 11) = false) (bw : spec_l01In.f op 6 9 = some true) (hna : isNan n1 = false)
    (hres : binV op k1 n1 t1 r1 k2 n2 t2 r2 = (1, bn (ordV op (double.order n1.toNat n2.toNat == some .lt) (double.order n1.toNat n2.toNat == some .eq) (double.order n2.toNat n1.toNat == some .lt)), (⟨#[]⟩ : ByteArray), 0, (⟨#[]⟩ : ByteArray))) :
    Calls Try.prog 26 #[.int .i64 op, .agg #[.int .i64 k1, .int .u64 n1, .string t1, .int .i64 r1], .agg #[.int .i64 k2, .int .u64 n2, .string t2, .int .i64 r2]] w fun e w' => e = .returned (.tuple #[.agg #[.int .i64 (binV op k1 n1 t1 r1 k2 n2 t2 r2).1, .int .u64 (binV op k1 n1 t1 r1 k2 n2 t2 r2).2.1, .string (binV op k1 n1 t1 r1 k2 n2 t2 r2).2.2.1, .int .i64 (binV op k1 n1 t1 r1 k2 n2 t2 r2).2.2.2.1], .string (binV op k1 n1 t1 r1 k2 n2 t2 r2).2.2.2.2]) ∧ Below w.heap.size w w' := by
  have hu := Try.underlying37
  have HR := Aside0.mk hres; clear hres
  have M0 := Aside0.mk ((((Mem.start w).allocAt (g := w.heap.size) rfl #[.int .i64 k1, .int .u64 n1, .string t1, .int .i64 r1] 37).allocAt (g := w.heap.size + 1) (by simp) #[.int .i64 k2, .int .u64 n2, .string t2, .int .i64 r2] 37).allocAt (g := w.heap.size + 1 + 1) (by simp) #[.int .i64 0, .int .u64 0, .string (⟨#[]⟩ : ByteArray), .int .i64 0] 37)
  have za := M0.out.box (.tail _ (.tail _ (.head _))); have zb := M0.out.box (.tail _ (.head _)); have zz := M0.out.box (.head _); have fz := M0.out.free (.head _)
  have e0 : (k1 != 2) = false := by rw [bne, a0]; rfl
  have e1 : (k2 != 2) = false := by rw [bne, a1]; rfl
  have HON := Aside0.mk (ord_num op hn1 hn2)
  rw [hna, Bool.false_or] at HON
  go_enter Try.func26, Try.ntmps26
  go_wp2_with fail
  repeat (go_quiet (fail); go_wp2_with fail)
  refine (spec_l01In.calls op 6 9 true _ bw).mono ?_
  rintro e v1 ⟨rfl, hb⟩
  have M1 := Aside0.mk (M0.out.step hb.below); clear hb za zb zz fz M0
  have za := M1.out.box (.tail _ (.tail _ (.head _))); have zb := M1.out.box (.tail _ (.head _)); have zz := M1.out.box (.head _); have fz := M1.out.free (.head _)
  go_upto_region 16 with fail
  clear za zb zz fz
  have MD := Aside0.mk M1.out.drew; clear M1
  refine sz 22 (fun W => W.cell? ⟨w.heap.size, 1, none⟩ = some (.int .u64 n1) ∧ W.cell? ⟨w.heap.size + 1, 1, none⟩ = some (.int .u64 n2)) [20] dobS.tab16 dobS.bits16 ⟨(MD.out.box (.tail _ (.tail _ (.head _))) 1).trans rfl, (MD.out.box (.tail _ (.head _)) 1).trans rfl⟩ (fun HT_ HW_ hHeld => ?_)
  generalize v1.drew = wd at MD hHeld ⊢
  refine pz 0 76 ?_; refine pz 1 77 ?_; refine pz 3 79 ?_; refine pz 6 82 ?_; refine pz 8 84 ?_; refine pz 11 87 ?_; refine tz 2 78 ?_; refine tz 4 80 ?_; refine tz 7 83 ?_; refine tz 9 85 ?_; refine tz 12 88 ?_
  refine ez 5 (some 81) (fun K hK => ?_)
  refine gz Try.func19 #[.int .u64 n1, .int .u64 n2] ?_
  refine (lessS n1 n2 hn1 hn2 _).mono ?_; rintro e vv1 ⟨rfl, hb⟩
  have ME1 := Aside0.mk (MD.out.step hb); clear hb MD
  refine ⟨_, rfl, ?_⟩
  refine hK.out _ _ ⟨(ME1.out.box (.tail _ (.tail _ (.head _))) 1).trans rfl, (ME1.out.box (.tail _ (.head _)) 1).trans rfl⟩ (fun hHeld => ?_); clear hK K; refine kz (some 81) ?_
  refine ez 10 (some 86) (fun K hK => ?_)
  refine gz Try.func13 #[.int .u64 n1, .int .u64 n2] ?_
  refine (equalS n1 n2 hn1 hn2 _).mono ?_; rintro e vv2 ⟨rfl, hb⟩
  have ME2 := Aside0.mk (ME1.out.step hb); clear hb ME1
  refine ⟨_, rfl, ?_⟩
  refine hK.out _ _ ⟨(ME2.out.box (.tail _ (.tail _ (.head _))) 1).trans rfl, (ME2.out.box (.tail _ (.head _)) 1).trans rfl⟩ (fun hHeld => ?_); clear hK K; refine kz (some 86) ?_
  refine ez 13 (some 89) (fun K hK => ?_)
  refine gz Try.func36 #[.int .u64 n1] ?_
  have CN := fun w => nanS n1 hn1 w
  rw [hna] at CN
  refine (CN _).mono ?_; rintro e vv3 ⟨rfl, hb⟩
  have ME3 := Aside0.mk (ME2.out.step hb); clear hb ME2
  clear CN
  refine ⟨_, rfl, ?_⟩
  refine hK.out _ _ ⟨(ME3.out.box (.tail _ (.tail _ (.head _))) 1).trans rfl, (ME3.out.box (.tail _ (.head _)) 1).trans rfl⟩ (fun hHeld => ?_); clear hK K; refine kz (some 89) ?_
  refine pz 14 90 ?_; refine pz 15 91 ?_; refine tz 16 92 ?_
  refine ez 17 (some 93) (fun K hK => ?_)
  refine gz Try.func36 #[.int .u64 n2] ?_
  refine (nanS n2 hn2 _).mono ?_; rintro e vv4 ⟨rfl, hb⟩
  have ME4 := Aside0.mk (ME3.out.step hb); clear hb ME3
  refine ⟨_, rfl, ?_⟩
  refine hK.out _ _ ⟨(ME4.out.box (.tail _ (.tail _ (.head _))) 1).trans rfl, (ME4.out.box (.tail _ (.head _)) 1).trans rfl⟩ (fun hHeld => ?_); clear hK K; refine kz (some 93) ?_
  refine pz 18 94 ?_
  refine ez 19 (some 95) (fun K hK => ?_)
  refine gz Try.func60 #[.int .i64 op, .bool (double.order n1.toNat n2.toNat == some .lt), .bool (double.order n1.toNat n2.toNat == some .eq), .bool (isNan n2)] ?_
  have CO := fun w => ordCS op (double.order n1.toNat n2.toNat == some .lt) (double.order n1.toNat n2.toNat == some .eq) (isNan n2) w
  rw [HON.out] at CO
  refine (CO _).mono ?_; rintro e vv9 ⟨rfl, hb⟩
  have MC := Aside0.mk (ME4.out.step hb); clear hb CO ME4
  have zz := MC.out.box (.head _); have fz := MC.out.free (.head _)
  refine ⟨_, rfl, ?_⟩
  refine hK.out _ _ ⟨(MC.out.box (.tail _ (.tail _ (.head _))) 1).trans rfl, (MC.out.box (.tail _ (.head _)) 1).trans rfl⟩ (fun hHeld => ?_); clear hK K; refine kz (some 95) ?_
  refine lz 20 none (fun K hK => ?_)
  refine skip_ (w1 := ?_) (by rfl) rfl ?_ ?_
  rotate_left
  · go_simp
    rfl
  refine hK.out _ _ ?_; clear hK K
  refine pz 21 7 ?_
  refine dz ?_
  go_wp2
  have M9 := Aside0.mk ((((MC.out.set (A := []) 0 (.int .i64 (1)) rfl).set (A := []) 1 (.int .u64 (bn (ordV op (double.order n1.toNat n2.toNat == some .lt) (double.order n1.toNat n2.toNat == some .eq) (double.order n2.toNat n1.toNat == some .lt)))) rfl).set (A := []) 2 (.string ((⟨#[]⟩ : ByteArray))) rfl).set (A := []) 3 (.int .i64 (0)) rfl)
  refine bodyPost_ret (results_ct rfl _ _ (w.heap.size + 1 + 1) 37 #[.int .i64 (1), .int .u64 (bn (ordV op (double.order n1.toNat n2.toNat == some .lt) (double.order n1.toNat n2.toNat == some .eq) (double.order n2.toNat n1.toNat == some .lt))), .string ((⟨#[]⟩ : ByteArray)), .int .i64 (0)] (0, 0) _ rfl (M9.out.blk (.head _)) Try.underlying37 rfl (by kernel_rfl)) rfl ?_
  exact ⟨by rw [HR.out]; rfl, M9.out.below⟩
/-- spec.DoBinary. -/
theorem doBinS (op k1 n1 r1 k2 n2 r2 : Int) (t1 t2 : ByteArray) (w : World) (hn1 : 0 ≤ n1 ∧ n1 < 18446744073709551616) (hn2 : 0 ≤ n2 ∧ n2 < 18446744073709551616) (hs1 : t1.size ≤ 1048576) (hs2 : t2.size ≤ 1048576) :
    Calls Try.prog 26 #[.int .i64 op, .agg #[.int .i64 k1, .int .u64 n1, .string t1, .int .i64 r1], .agg #[.int .i64 k2, .int .u64 n2, .string t2, .int .i64 r2]] w fun e w' => e = .returned (.tuple #[.agg #[.int .i64 (binV op k1 n1 t1 r1 k2 n2 t2 r2).1, .int .u64 (binV op k1 n1 t1 r1 k2 n2 t2 r2).2.1, .string (binV op k1 n1 t1 r1 k2 n2 t2 r2).2.2.1, .int .i64 (binV op k1 n1 t1 r1 k2 n2 t2 r2).2.2.2.1], .string (binV op k1 n1 t1 r1 k2 n2 t2 r2).2.2.2.2]) ∧ Below w.heap.size w w' := by
  have wf : ¬ (6 ≤ op ∧ op ≤ 9) → spec_l01In.f op 6 9 = some false := by
    intro h
    unfold spec_l01In.f
    by_cases c : op ≥ 6
    · rw [if_pos c, decide_eq_false (by omega)]
    · rw [if_neg c]
  have wt : 6 ≤ op ∧ op ≤ 9 → spec_l01In.f op 6 9 = some true := by
    intro h
    unfold spec_l01In.f
    rw [if_pos (by omega), decide_eq_true (by omega)]
  have eqt : ∀ {a b : Int}, a = b → (a == b) = true := fun h => beq_iff_eq.mpr h
  have eqf : ∀ {a b : Int}, ¬ a = b → (a == b) = false := fun h => beq_eq_false_iff_ne.mpr h
  by_cases a : k1 = 2
  · by_cases b : k2 = 2
    · skip
      by_cases o10 : op = 10
      · exact s_same_22 op k1 n1 r1 k2 n2 r2 t1 t2 w hn1 hn2 hs1 hs2 (eqt a) (eqt b) (eqf (by omega)) (eqf (by omega)) (eqt o10) (by unfold binV; rw [if_pos o10]; rfl)
      by_cases o11 : op = 11
      · exact s_other_22 op k1 n1 r1 k2 n2 r2 t1 t2 w hn1 hn2 hs1 hs2 (eqt a) (eqt b) (eqf (by omega)) (eqf (by omega)) (eqf o10) (eqt o11) (by unfold binV; rw [if_neg o10, if_pos o11]; rfl)
      by_cases o6 : 6 ≤ op ∧ op ≤ 9
      · cases hna : isNan n1 with
        | true => exact s_in_22_t op k1 n1 r1 k2 n2 r2 t1 t2 w hn1 hn2 hs1 hs2 (eqt a) (eqt b) (eqf (by omega)) (eqf (by omega)) (eqf o10) (eqf o11) (wt o6) hna (by unfold binV; rw [if_neg o10, if_neg o11, if_pos ⟨a, b⟩, if_pos o6]; rfl)
        | false => exact s_in_22_f op k1 n1 r1 k2 n2 r2 t1 t2 w hn1 hn2 hs1 hs2 (eqt a) (eqt b) (eqf (by omega)) (eqf (by omega)) (eqf o10) (eqf o11) (wt o6) hna (by unfold binV; rw [if_neg o10, if_neg o11, if_pos ⟨a, b⟩, if_pos o6]; rfl)
      by_cases o1 : op = 1
      · exact s_num_1 op k1 n1 r1 k2 n2 r2 t1 t2 w hn1 hn2 hs1 hs2 (eqt a) (eqt b) (eqf (by omega)) (eqf (by omega)) (eqf o10) (eqf o11) (wf o6) (eqt o1) (by unfold binV; rw [if_neg o10, if_neg o11, if_pos ⟨a, b⟩, if_neg o6, show numV op n1 n2 = some (opW (double.add n1.toNat n2.toNat)) by unfold numV; rw [if_pos o1]])
      by_cases o2 : op = 2
      · exact s_num_2 op k1 n1 r1 k2 n2 r2 t1 t2 w hn1 hn2 hs1 hs2 (eqt a) (eqt b) (eqf (by omega)) (eqf (by omega)) (eqf o10) (eqf o11) (wf o6) (eqf o1) (eqt o2) (by unfold binV; rw [if_neg o10, if_neg o11, if_pos ⟨a, b⟩, if_neg o6, show numV op n1 n2 = some (opW (double.add n1.toNat (negW n2).toNat)) by unfold numV; rw [if_neg o1, if_pos o2]])
      by_cases o3 : op = 3
      · exact s_num_3 op k1 n1 r1 k2 n2 r2 t1 t2 w hn1 hn2 hs1 hs2 (eqt a) (eqt b) (eqf (by omega)) (eqf (by omega)) (eqf o10) (eqf o11) (wf o6) (eqf o1) (eqf o2) (eqt o3) (by unfold binV; rw [if_neg o10, if_neg o11, if_pos ⟨a, b⟩, if_neg o6, show numV op n1 n2 = some (opW (double.mul n1.toNat n2.toNat)) by unfold numV; rw [if_neg o1, if_neg o2, if_pos o3]])
      by_cases o4 : op = 4
      · exact s_num_4 op k1 n1 r1 k2 n2 r2 t1 t2 w hn1 hn2 hs1 hs2 (eqt a) (eqt b) (eqf (by omega)) (eqf (by omega)) (eqf o10) (eqf o11) (wf o6) (eqf o1) (eqf o2) (eqf o3) (eqt o4) (by unfold binV; rw [if_neg o10, if_neg o11, if_pos ⟨a, b⟩, if_neg o6, show numV op n1 n2 = some (opW (double.div n1.toNat n2.toNat)) by unfold numV; rw [if_neg o1, if_neg o2, if_neg o3, if_pos o4]])
      by_cases o5 : op = 5
      · exact s_num_5 op k1 n1 r1 k2 n2 r2 t1 t2 w hn1 hn2 hs1 hs2 (eqt a) (eqt b) (eqf (by omega)) (eqf (by omega)) (eqf o10) (eqf o11) (wf o6) (eqf o1) (eqf o2) (eqf o3) (eqf o4) (eqt o5) (by unfold binV; rw [if_neg o10, if_neg o11, if_pos ⟨a, b⟩, if_neg o6, show numV op n1 n2 = some (remI n1.toNat n2.toNat) by unfold numV; rw [if_neg o1, if_neg o2, if_neg o3, if_neg o4, if_pos o5]])
      · exact s_num_no op k1 n1 r1 k2 n2 r2 t1 t2 w hn1 hn2 hs1 hs2 (eqt a) (eqt b) (eqf (by omega)) (eqf (by omega)) (eqf o10) (eqf o11) (wf o6) (eqf o1) (eqf o2) (eqf o3) (eqf o4) (eqf o5) (by unfold binV; rw [if_neg o10, if_neg o11, if_pos ⟨a, b⟩, if_neg o6, show numV op n1 n2 = none by unfold numV; rw [if_neg o1, if_neg o2, if_neg o3, if_neg o4, if_neg o5]]; rfl)
    · skip
      by_cases o10 : op = 10
      · exact s_same_2o op k1 n1 r1 k2 n2 r2 t1 t2 w hn1 hn2 hs1 hs2 (eqt a) (eqf b) (eqf (by omega)) (eqt o10) (by unfold binV; rw [if_pos o10]; rfl)
      by_cases o11 : op = 11
      · exact s_other_2o op k1 n1 r1 k2 n2 r2 t1 t2 w hn1 hn2 hs1 hs2 (eqt a) (eqf b) (eqf (by omega)) (eqf o10) (eqt o11) (by unfold binV; rw [if_neg o10, if_pos o11]; rfl)
      by_cases o6 : 6 ≤ op ∧ op ≤ 9
      · exact s_type_2o_true op k1 n1 r1 k2 n2 r2 t1 t2 w hn1 hn2 hs1 hs2 (eqt a) (eqf b) (eqf (by omega)) (eqf o10) (eqf o11) (wt o6) (by unfold binV; rw [if_neg o10, if_neg o11, if_neg (show ¬ (k1 = 2 ∧ k2 = 2) from fun h => b h.2), if_neg (show ¬ (k1 = 3 ∧ k2 = 3) from fun h => by omega)]; rfl)
      · exact s_type_2o_false op k1 n1 r1 k2 n2 r2 t1 t2 w hn1 hn2 hs1 hs2 (eqt a) (eqf b) (eqf (by omega)) (eqf o10) (eqf o11) (wf o6) (by unfold binV; rw [if_neg o10, if_neg o11, if_neg (show ¬ (k1 = 2 ∧ k2 = 2) from fun h => b h.2), if_neg (show ¬ (k1 = 3 ∧ k2 = 3) from fun h => by omega)]; rfl)
  · by_cases a3 : k1 = 3
    · by_cases b : k2 = 3
      · skip
        by_cases o10 : op = 10
        · exact s_same_33 op k1 n1 r1 k2 n2 r2 t1 t2 w hn1 hn2 hs1 hs2 (eqf a) (eqt a3) (eqt b) (eqt o10) (by unfold binV; rw [if_pos o10]; rfl)
        by_cases o11 : op = 11
        · exact s_other_33 op k1 n1 r1 k2 n2 r2 t1 t2 w hn1 hn2 hs1 hs2 (eqf a) (eqt a3) (eqt b) (eqf o10) (eqt o11) (by unfold binV; rw [if_neg o10, if_pos o11]; rfl)
        by_cases o6 : 6 ≤ op ∧ op ≤ 9
        · exact s_in_33 op k1 n1 r1 k2 n2 r2 t1 t2 w hn1 hn2 hs1 hs2 (eqf a) (eqt a3) (eqt b) (eqf o10) (eqf o11) (wt o6) (by unfold binV; rw [if_neg o10, if_neg o11, if_neg (show ¬ (k1 = 2 ∧ k2 = 2) from fun h => a h.1), if_pos ⟨a3, b⟩, if_pos o6]; rfl)
        by_cases o1 : op = 1
        · by_cases hl : 200 < t1.size + t2.size
          · exact s_long_33 op k1 n1 r1 k2 n2 r2 t1 t2 w hn1 hn2 hs1 hs2 (eqf a) (eqt a3) (eqt b) (eqf o10) (eqf o11) (eqt o1) (wf o6) (by omega) (by unfold binV; rw [if_neg o10, if_neg o11, if_neg (show ¬ (k1 = 2 ∧ k2 = 2) from fun h => a h.1), if_pos ⟨a3, b⟩, if_neg o6, if_pos o1, if_pos hl])
          · exact s_cat_33 op k1 n1 r1 k2 n2 r2 t1 t2 w hn1 hn2 hs1 hs2 (eqf a) (eqt a3) (eqt b) (eqf o10) (eqf o11) (eqt o1) (wf o6) (by omega) (by unfold binV; rw [if_neg o10, if_neg o11, if_neg (show ¬ (k1 = 2 ∧ k2 = 2) from fun h => a h.1), if_pos ⟨a3, b⟩, if_neg o6, if_pos o1, if_neg hl])
        · exact s_type_33 op k1 n1 r1 k2 n2 r2 t1 t2 w hn1 hn2 hs1 hs2 (eqf a) (eqt a3) (eqt b) (eqf o10) (eqf o11) (eqf o1) (wf o6) (by unfold binV; rw [if_neg o10, if_neg o11, if_neg (show ¬ (k1 = 2 ∧ k2 = 2) from fun h => a h.1), if_pos ⟨a3, b⟩, if_neg o6, if_neg o1]; rfl)
      · skip
        by_cases o10 : op = 10
        · exact s_same_3o op k1 n1 r1 k2 n2 r2 t1 t2 w hn1 hn2 hs1 hs2 (eqf a) (eqt a3) (eqf b) (eqt o10) (by unfold binV; rw [if_pos o10]; rfl)
        by_cases o11 : op = 11
        · exact s_other_3o op k1 n1 r1 k2 n2 r2 t1 t2 w hn1 hn2 hs1 hs2 (eqf a) (eqt a3) (eqf b) (eqf o10) (eqt o11) (by unfold binV; rw [if_neg o10, if_pos o11]; rfl)
        by_cases o6 : 6 ≤ op ∧ op ≤ 9
        · exact s_type_3o_true op k1 n1 r1 k2 n2 r2 t1 t2 w hn1 hn2 hs1 hs2 (eqf a) (eqt a3) (eqf b) (eqf o10) (eqf o11) (wt o6) (by unfold binV; rw [if_neg o10, if_neg o11, if_neg (show ¬ (k1 = 2 ∧ k2 = 2) from fun h => a h.1), if_neg (show ¬ (k1 = 3 ∧ k2 = 3) from fun h => b h.2)]; rfl)
        · exact s_type_3o_false op k1 n1 r1 k2 n2 r2 t1 t2 w hn1 hn2 hs1 hs2 (eqf a) (eqt a3) (eqf b) (eqf o10) (eqf o11) (wf o6) (by unfold binV; rw [if_neg o10, if_neg o11, if_neg (show ¬ (k1 = 2 ∧ k2 = 2) from fun h => a h.1), if_neg (show ¬ (k1 = 3 ∧ k2 = 3) from fun h => b h.2)]; rfl)
    · skip
      by_cases o10 : op = 10
      · exact s_same_oo op k1 n1 r1 k2 n2 r2 t1 t2 w hn1 hn2 hs1 hs2 (eqf a) (eqf a3) (eqt o10) (by unfold binV; rw [if_pos o10]; rfl)
      by_cases o11 : op = 11
      · exact s_other_oo op k1 n1 r1 k2 n2 r2 t1 t2 w hn1 hn2 hs1 hs2 (eqf a) (eqf a3) (eqf o10) (eqt o11) (by unfold binV; rw [if_neg o10, if_pos o11]; rfl)
      by_cases o6 : 6 ≤ op ∧ op ≤ 9
      · exact s_type_oo_true op k1 n1 r1 k2 n2 r2 t1 t2 w hn1 hn2 hs1 hs2 (eqf a) (eqf a3) (eqf o10) (eqf o11) (wt o6) (by unfold binV; rw [if_neg o10, if_neg o11, if_neg (show ¬ (k1 = 2 ∧ k2 = 2) from fun h => a h.1), if_neg (show ¬ (k1 = 3 ∧ k2 = 3) from fun h => a3 h.1)]; rfl)
      · exact s_type_oo_false op k1 n1 r1 k2 n2 r2 t1 t2 w hn1 hn2 hs1 hs2 (eqf a) (eqf a3) (eqf o10) (eqf o11) (wf o6) (by unfold binV; rw [if_neg o10, if_neg o11, if_neg (show ¬ (k1 = 2 ∧ k2 = 2) from fun h => a h.1), if_neg (show ¬ (k1 = 3 ∧ k2 = 3) from fun h => a3 h.1)]; rfl)
end Go.Proofs.Ytokhgodcamhibaa.Dob
end
section
namespace Go.Proofs.Ytokhgodcamhibaa.QFnExactDoBinary
open Go.RowKit Go.Proofs.YtokhgodcamhibaaW.PrintWords Go.Proofs.YtokhgodcamhibaaW.PrintLast Go.Proofs.YtokhgodcamhibaaW.PrintMore
attribute [local go_sem] max_two min_two max_three min_three max_four min_four run_field34_0 max2_mx min2_mn   -- for this text's walks alone
set_option linter.unusedVariables false
set_option linter.unusedSimpArgs false
def laws_toValue.f (a0_0 : Int) (a0_1 : Int) (a0_2 : ByteArray) (a0_3 : Int) : Option (Int × Int × ByteArray × Int) := some (a0_0, a0_1, a0_2, a0_3)
set_option maxHeartbeats 8000000 in
set_option maxRecDepth 100000 in
theorem laws_toValue.calls (a0_0 : Int) (a0_1 : Int) (a0_2 : ByteArray) (a0_3 : Int) (r1 : Int) (r2 : Int) (r3 : ByteArray) (r4 : Int) (w : World) (h : laws_toValue.f a0_0 a0_1 a0_2 a0_3 = some (r1, r2, r3, r4)) :
    Calls Try.prog 27 #[.agg #[.int .i64 a0_0, .int .u64 a0_1, .string a0_2, .int .i64 a0_3]] w fun e w' => e = .returned (.agg #[.int .i64 r1, .int .u64 r2, .string r3, .int .i64 r4]) ∧ Below w.heap.size w w' := by
  have hu43 := Try.underlying43
  have hu37 := Try.underlying37
  have HB := Aside0.mk (Below.refl w.heap.size w)
  have H : (some (a0_0, a0_1, a0_2, a0_3)) = some (r1, r2, r3, r4) := h
  clear h
  simp only [Option.some.injEq, Prod.mk.injEq] at H
  obtain ⟨rfl, rfl, rfl, rfl⟩ := H
  go_enter Try.func27, Try.ntmps27
  go_wp2_with (first | ((with_reducible refine gate_dst (N := 1) rfl ?_); refine box_event ?hg (N := 1) ?hd (cs := #[.int .i64 a0_0, .int .u64 a0_1, .string a0_2, .int .i64 a0_3]) (t := 43) ?hr ?_; (case hd => rfl); (case hg => rfl); (case hr => first | (go_simp; done) | (go_simp; rfl)); intro gb325 hg w2 hbox hb; have n0_ := Aside0.mk (below_step (by repeat (first | (with_reducible first | exact HB.out | apply below_alloc | apply pw_below_drewN | apply below_drew1) | exact HB.out)) hb); have n1_ := Aside0.mk (hbox); have n2_ := Aside0.mk ((by rw [hg]; exact (below_size (by repeat (first | (with_reducible first | exact HB.out | apply below_alloc | apply pw_below_drewN | apply below_drew1) | exact HB.out))) : w.heap.size ≤ gb325)); have n3_ := Aside0.mk ((by rw [hg]; exact (below_size (by repeat (first | (with_reducible first | exact HB.out | apply below_alloc | apply pw_below_drewN | apply below_drew1) | exact HB.out))) : w.heap.size ≤ gb325)); clear HB; have HB := n0_; have BK325 := n1_; have GW325 := n2_; have GE325 := n3_; clear n0_ n1_ n2_ n3_; clear hb hbox hg) | ((with_reducible refine gate_dst (N := 2) rfl ?_); refine box_event ?hg (N := 2) ?hd (cs := #[.int .i64 0, .int .u64 0, .string (⟨#[]⟩ : ByteArray), .int .i64 0]) (t := 37) ?hr ?_; (case hd => rfl); (case hg => rfl); (case hr => first | (go_simp; done) | (go_simp; rfl)); intro gb326 hg w3 hbox hb; have n0_ := Aside0.mk (blk_below (g := gb325) (o := .cells #[.int .i64 a0_0, .int .u64 a0_1, .string a0_2, .int .i64 a0_3] 43 (0, 0)) (by (with_reducible repeat (first | refine blk_drewN ?_ _ | refine blk_drew ?_ | refine blk_alloc ?_ _)); exact BK325.out) hb); have n1_ := Aside0.mk (below_step (by repeat (first | (with_reducible first | exact HB.out | apply below_alloc | apply pw_below_drewN | apply below_drew1 | refine below_set ?_ GE325.out) | exact HB.out)) hb); have n2_ := Aside0.mk (hbox); have n3_ := Aside0.mk ((by rw [hg]; exact (below_size (by repeat (first | (with_reducible first | exact HB.out | apply below_alloc | apply pw_below_drewN | apply below_drew1 | refine below_set ?_ GE325.out) | exact HB.out))) : w.heap.size ≤ gb326)); have n4_ := Aside0.mk ((by rw [hg]; exact (below_size (by repeat (first | (with_reducible first | exact HB.out | apply below_alloc | apply pw_below_drewN | apply below_drew1 | refine below_set ?_ GE325.out) | exact HB.out))) : w.heap.size ≤ gb326)); have n5_ := Aside0.mk ((by rw [hg]; exact Nat.ne_of_lt (blk_lt (g := gb325) (o := .cells #[.int .i64 a0_0, .int .u64 a0_1, .string a0_2, .int .i64 a0_3] 43 (0, 0)) (by (with_reducible repeat (first | refine blk_drewN ?_ _ | refine blk_drew ?_ | refine blk_alloc ?_ _)); exact BK325.out)) : gb325 ≠ gb326)); have n6_ := Aside0.mk ((by rw [hg]; exact Nat.ne_of_gt (blk_lt (g := gb325) (o := .cells #[.int .i64 a0_0, .int .u64 a0_1, .string a0_2, .int .i64 a0_3] 43 (0, 0)) (by (with_reducible repeat (first | refine blk_drewN ?_ _ | refine blk_drew ?_ | refine blk_alloc ?_ _)); exact BK325.out)) : gb326 ≠ gb325)); clear BK325; clear HB; have BK325 := n0_; have HB := n1_; have BK326 := n2_; have GW326 := n3_; have GE326 := n4_; have NB325_326 := n5_; have NB326_325 := n6_; clear n0_ n1_ n2_ n3_ n4_ n5_ n6_; clear hb hbox hg) | ((with_reducible refine gate_dst (N := 3) rfl ?_); refine box_event ?hg (N := 3) ?hd (cs := #[.int .i64 0, .int .u64 0, .string (⟨#[]⟩ : ByteArray), .int .i64 0]) (t := 37) ?hr ?_; (case hd => rfl); (case hg => rfl); (case hr => first | (go_simp; done) | (go_simp; rfl)); intro gb327 hg w4 hbox hb; have n0_ := Aside0.mk (blk_below (g := gb325) (o := .cells #[.int .i64 a0_0, .int .u64 a0_1, .string a0_2, .int .i64 a0_3] 43 (0, 0)) (by (with_reducible repeat (first | refine blk_drewN ?_ _ | refine blk_drew ?_ | refine blk_alloc ?_ _)); exact BK325.out) hb); have n1_ := Aside0.mk (blk_below (g := gb326) (o := .cells #[.int .i64 0, .int .u64 0, .string (⟨#[]⟩ : ByteArray), .int .i64 0] 37 (0, 0)) (by (with_reducible repeat (first | refine blk_drewN ?_ _ | refine blk_drew ?_ | refine blk_alloc ?_ _)); exact BK326.out) hb); have n2_ := Aside0.mk (below_step (by repeat (first | (with_reducible first | exact HB.out | apply below_alloc | apply pw_below_drewN | apply below_drew1 | refine below_set ?_ GE325.out | refine below_set ?_ GE326.out) | exact HB.out)) hb); have n3_ := Aside0.mk (hbox); have n4_ := Aside0.mk ((by rw [hg]; exact (below_size (by repeat (first | (with_reducible first | exact HB.out | apply below_alloc | apply pw_below_drewN | apply below_drew1 | refine below_set ?_ GE325.out | refine below_set ?_ GE326.out) | exact HB.out))) : w.heap.size ≤ gb327)); have n5_ := Aside0.mk ((by rw [hg]; exact (below_size (by repeat (first | (with_reducible first | exact HB.out | apply below_alloc | apply pw_below_drewN | apply below_drew1 | refine below_set ?_ GE325.out | refine below_set ?_ GE326.out) | exact HB.out))) : w.heap.size ≤ gb327)); have n6_ := Aside0.mk ((by rw [hg]; exact Nat.ne_of_lt (blk_lt (g := gb325) (o := .cells #[.int .i64 a0_0, .int .u64 a0_1, .string a0_2, .int .i64 a0_3] 43 (0, 0)) (by (with_reducible repeat (first | refine blk_drewN ?_ _ | refine blk_drew ?_ | refine blk_alloc ?_ _)); exact BK325.out)) : gb325 ≠ gb327)); have n7_ := Aside0.mk ((by rw [hg]; exact Nat.ne_of_gt (blk_lt (g := gb325) (o := .cells #[.int .i64 a0_0, .int .u64 a0_1, .string a0_2, .int .i64 a0_3] 43 (0, 0)) (by (with_reducible repeat (first | refine blk_drewN ?_ _ | refine blk_drew ?_ | refine blk_alloc ?_ _)); exact BK325.out)) : gb327 ≠ gb325)); have n8_ := Aside0.mk ((by rw [hg]; exact Nat.ne_of_lt (blk_lt (g := gb326) (o := .cells #[.int .i64 0, .int .u64 0, .string (⟨#[]⟩ : ByteArray), .int .i64 0] 37 (0, 0)) (by (with_reducible repeat (first | refine blk_drewN ?_ _ | refine blk_drew ?_ | refine blk_alloc ?_ _)); exact BK326.out)) : gb326 ≠ gb327)); have n9_ := Aside0.mk ((by rw [hg]; exact Nat.ne_of_gt (blk_lt (g := gb326) (o := .cells #[.int .i64 0, .int .u64 0, .string (⟨#[]⟩ : ByteArray), .int .i64 0] 37 (0, 0)) (by (with_reducible repeat (first | refine blk_drewN ?_ _ | refine blk_drew ?_ | refine blk_alloc ?_ _)); exact BK326.out)) : gb327 ≠ gb326)); clear BK325; clear BK326; clear HB; have BK325 := n0_; have BK326 := n1_; have HB := n2_; have BK327 := n3_; have GW327 := n4_; have GE327 := n5_; have NB325_327 := n6_; have NB327_325 := n7_; have NB326_327 := n8_; have NB327_326 := n9_; clear n0_ n1_ n2_ n3_ n4_ n5_ n6_ n7_ n8_ n9_; clear hb hbox hg; have hnb5 := NB325_326.out; have hnc5 := NB326_325.out; have hnb6 := NB325_327.out; have hnc6 := NB327_325.out; have hcz7_0 : w4.cell? ⟨gb325, 0, none⟩ = some (.int .i64 a0_0) := (blk_cell BK325.out 0).trans rfl; have hcz7_1 : w4.cell? ⟨gb325, 1, none⟩ = some (.int .u64 a0_1) := (blk_cell BK325.out 1).trans rfl; have hcz7_2 : w4.cell? ⟨gb325, 2, none⟩ = some (.string a0_2) := (blk_cell BK325.out 2).trans rfl; have hcz7_3 : w4.cell? ⟨gb325, 3, none⟩ = some (.int .i64 a0_3) := (blk_cell BK325.out 3).trans rfl; have hfz7_0 := blk_frozen BK325.out 0; have hfz7_1 := blk_frozen BK325.out 1; have hfz7_2 := blk_frozen BK325.out 2; have hfz7_3 := blk_frozen BK325.out 3; have hnb8 := NB327_326.out; have hnc8 := NB326_327.out; have hcz9_0 : w4.cell? ⟨gb327, 0, none⟩ = some (.int .i64 0) := (blk_cell BK327.out 0).trans rfl; have hcz9_1 : w4.cell? ⟨gb327, 1, none⟩ = some (.int .u64 0) := (blk_cell BK327.out 1).trans rfl; have hcz9_2 : w4.cell? ⟨gb327, 2, none⟩ = some (.string (⟨#[]⟩ : ByteArray)) := (blk_cell BK327.out 2).trans rfl; have hcz9_3 : w4.cell? ⟨gb327, 3, none⟩ = some (.int .i64 0) := (blk_cell BK327.out 3).trans rfl; have hfz9_0 := blk_frozen BK327.out 0; have hfz9_1 := blk_frozen BK327.out 1; have hfz9_2 := blk_frozen BK327.out 2; have hfz9_3 := blk_frozen BK327.out 3; have hcz10_0 : w4.cell? ⟨gb326, 0, none⟩ = some (.int .i64 0) := (blk_cell BK326.out 0).trans rfl; have hcz10_1 : w4.cell? ⟨gb326, 1, none⟩ = some (.int .u64 0) := (blk_cell BK326.out 1).trans rfl; have hcz10_2 : w4.cell? ⟨gb326, 2, none⟩ = some (.string (⟨#[]⟩ : ByteArray)) := (blk_cell BK326.out 2).trans rfl; have hcz10_3 : w4.cell? ⟨gb326, 3, none⟩ = some (.int .i64 0) := (blk_cell BK326.out 3).trans rfl; have hfz10_0 := blk_frozen BK326.out 0; have hfz10_1 := blk_frozen BK326.out 1; have hfz10_2 := blk_frozen BK326.out 2; have hfz10_3 := blk_frozen BK326.out 3))
  refine bodyPost_ret (results_cell_row rfl _ _ gb326 37 #[.int .i64 a0_0, .int .u64 a0_1, .string a0_2, .int .i64 a0_3] (0, 0) _ rfl (by (with_reducible repeat (first | refine blk_drewN ?_ _ | refine blk_drew ?_ | refine blk_alloc ?_ _)); refine blk_put (cs := #[.int .i64 a0_0, .int .u64 a0_1, .string a0_2, .int .i64 0]) ?_ 3 _ rfl; (with_reducible repeat (first | refine blk_drewN ?_ _ | refine blk_drew ?_ | refine blk_alloc ?_ _)); refine blk_put (cs := #[.int .i64 a0_0, .int .u64 a0_1, .string (⟨#[]⟩ : ByteArray), .int .i64 0]) ?_ 2 _ rfl; (with_reducible repeat (first | refine blk_drewN ?_ _ | refine blk_drew ?_ | refine blk_alloc ?_ _)); refine blk_put (cs := #[.int .i64 a0_0, .int .u64 0, .string (⟨#[]⟩ : ByteArray), .int .i64 0]) ?_ 1 _ rfl; (with_reducible repeat (first | refine blk_drewN ?_ _ | refine blk_drew ?_ | refine blk_alloc ?_ _)); refine blk_put (cs := #[.int .i64 0, .int .u64 0, .string (⟨#[]⟩ : ByteArray), .int .i64 0]) ?_ 0 _ rfl; (with_reducible repeat (first | refine blk_drewN ?_ _ | refine blk_drew ?_ | refine blk_alloc ?_ _)); refine blk_far ?_ NB326_327.out _; (with_reducible repeat (first | refine blk_drewN ?_ _ | refine blk_drew ?_ | refine blk_alloc ?_ _)); refine blk_far ?_ NB326_327.out _; (with_reducible repeat (first | refine blk_drewN ?_ _ | refine blk_drew ?_ | refine blk_alloc ?_ _)); refine blk_far ?_ NB326_327.out _; (with_reducible repeat (first | refine blk_drewN ?_ _ | refine blk_drew ?_ | refine blk_alloc ?_ _)); refine blk_far ?_ NB326_327.out _; (with_reducible repeat (first | refine blk_drewN ?_ _ | refine blk_drew ?_ | refine blk_alloc ?_ _)); exact BK326.out) Try.underlying37 rfl (by kernel_rfl)) rfl ?_
  exact ⟨by first | rfl | (simp; done) | (simp [errW_none, errW_some] <;> rfl) | (simp [*, errW_none, errW_some] <;> rfl) | (simp [bne, List.isEmpty_iff]; done) | (rw [Bool.eq_iff_iff]; simp), by repeat (first | (with_reducible first | exact HB.out | apply below_alloc | apply pw_below_drewN | apply below_drew1 | refine below_set ?_ GE325.out | refine below_set ?_ GE326.out | refine below_set ?_ GE327.out) | exact HB.out)⟩
def laws_eqValue.f (a0_0 : Int) (a0_1 : Int) (a0_2 : ByteArray) (a0_3 : Int) (a1_0 : Int) (a1_1 : Int) (a1_2 : ByteArray) (a1_3 : Int) : Option (Bool) := if a0_0 = a1_0 then (if a0_1 = a1_1 then (if a0_2.toList = a1_2.toList then (if a0_3 = a1_3 then (some true) else (some false)) else (some false)) else (some false)) else (some false)
set_option maxHeartbeats 8000000 in
set_option maxRecDepth 100000 in
theorem laws_eqValue.calls (a0_0 : Int) (a0_1 : Int) (a0_2 : ByteArray) (a0_3 : Int) (a1_0 : Int) (a1_1 : Int) (a1_2 : ByteArray) (a1_3 : Int) (r : Bool) (w : World) (h : laws_eqValue.f a0_0 a0_1 a0_2 a0_3 a1_0 a1_1 a1_2 a1_3 = some r) :
    Calls Try.prog 28 #[.agg #[.int .i64 a0_0, .int .u64 a0_1, .string a0_2, .int .i64 a0_3], .agg #[.int .i64 a1_0, .int .u64 a1_1, .string a1_2, .int .i64 a1_3]] w fun e w' => e = .returned (.bool r) ∧ Below w.heap.size w w' := by
  have hu37 := Try.underlying37
  have HB := Aside0.mk (Below.refl w.heap.size w)
  have H : (if a0_0 = a1_0 then (if a0_1 = a1_1 then (if a0_2.toList = a1_2.toList then (if a0_3 = a1_3 then (some true) else (some false)) else (some false)) else (some false)) else (some false)) = some r := h
  clear h
  by_cases c3 : a0_0 = a1_0
  · rw [if_pos c3] at H
    have c3b0 : (a0_0 == a1_0) = true := beq_iff_eq.mpr c3
    have c3b1 : (a0_0 != a1_0) = false := bne_eq_false_iff_eq.mpr c3
    clear c3
    by_cases c4 : a0_1 = a1_1
    · rw [if_pos c4] at H
      have c4b0 : (a0_1 == a1_1) = true := beq_iff_eq.mpr c4
      have c4b1 : (a0_1 != a1_1) = false := bne_eq_false_iff_eq.mpr c4
      clear c4
      by_cases c5 : a0_2.toList = a1_2.toList
      · rw [if_pos c5] at H
        have c5b0 : (a0_2.toList == a1_2.toList) = true := beq_iff_eq.mpr c5
        have c5b1 : (a0_2.toList != a1_2.toList) = false := bne_eq_false_iff_eq.mpr c5
        clear c5
        by_cases c6 : a0_3 = a1_3
        · rw [if_pos c6] at H
          have c6b0 : (a0_3 == a1_3) = true := beq_iff_eq.mpr c6
          have c6b1 : (a0_3 != a1_3) = false := bne_eq_false_iff_eq.mpr c6
          clear c6
          obtain rfl := Option.some.inj H
          go_enter Try.func28, Try.ntmps28
          go_wp2_with (first | ((with_reducible refine gate_dst (N := 2) rfl ?_); refine box_event ?hg (N := 2) ?hd (cs := #[.int .i64 a0_0, .int .u64 a0_1, .string a0_2, .int .i64 a0_3]) (t := 37) ?hr ?_; (case hd => rfl); (case hg => rfl); (case hr => first | (go_simp; done) | (go_simp; rfl)); intro gb328 hg w7 hbox hb; have n0_ := Aside0.mk (below_step (by repeat (first | (with_reducible first | exact HB.out | apply below_alloc | apply pw_below_drewN | apply below_drew1) | exact HB.out)) hb); have n1_ := Aside0.mk (hbox); have n2_ := Aside0.mk ((by rw [hg]; exact (below_size (by repeat (first | (with_reducible first | exact HB.out | apply below_alloc | apply pw_below_drewN | apply below_drew1) | exact HB.out))) : w.heap.size ≤ gb328)); have n3_ := Aside0.mk ((by rw [hg]; exact (below_size (by repeat (first | (with_reducible first | exact HB.out | apply below_alloc | apply pw_below_drewN | apply below_drew1) | exact HB.out))) : w.heap.size ≤ gb328)); clear HB; have HB := n0_; have BK328 := n1_; have GW328 := n2_; have GE328 := n3_; clear n0_ n1_ n2_ n3_; clear hb hbox hg) | ((with_reducible refine gate_dst (N := 3) rfl ?_); refine box_event ?hg (N := 3) ?hd (cs := #[.int .i64 a1_0, .int .u64 a1_1, .string a1_2, .int .i64 a1_3]) (t := 37) ?hr ?_; (case hd => rfl); (case hg => rfl); (case hr => first | (go_simp; done) | (go_simp; rfl)); intro gb329 hg w8 hbox hb; have n0_ := Aside0.mk (blk_below (g := gb328) (o := .cells #[.int .i64 a0_0, .int .u64 a0_1, .string a0_2, .int .i64 a0_3] 37 (0, 0)) (by (with_reducible repeat (first | refine blk_drewN ?_ _ | refine blk_drew ?_ | refine blk_alloc ?_ _)); exact BK328.out) hb); have n1_ := Aside0.mk (below_step (by repeat (first | (with_reducible first | exact HB.out | apply below_alloc | apply pw_below_drewN | apply below_drew1 | refine below_set ?_ GE328.out) | exact HB.out)) hb); have n2_ := Aside0.mk (hbox); have n3_ := Aside0.mk ((by rw [hg]; exact (below_size (by repeat (first | (with_reducible first | exact HB.out | apply below_alloc | apply pw_below_drewN | apply below_drew1 | refine below_set ?_ GE328.out) | exact HB.out))) : w.heap.size ≤ gb329)); have n4_ := Aside0.mk ((by rw [hg]; exact (below_size (by repeat (first | (with_reducible first | exact HB.out | apply below_alloc | apply pw_below_drewN | apply below_drew1 | refine below_set ?_ GE328.out) | exact HB.out))) : w.heap.size ≤ gb329)); have n5_ := Aside0.mk ((by rw [hg]; exact Nat.ne_of_lt (blk_lt (g := gb328) (o := .cells #[.int .i64 a0_0, .int .u64 a0_1, .string a0_2, .int .i64 a0_3] 37 (0, 0)) (by (with_reducible repeat (first | refine blk_drewN ?_ _ | refine blk_drew ?_ | refine blk_alloc ?_ _)); exact BK328.out)) : gb328 ≠ gb329)); have n6_ := Aside0.mk ((by rw [hg]; exact Nat.ne_of_gt (blk_lt (g := gb328) (o := .cells #[.int .i64 a0_0, .int .u64 a0_1, .string a0_2, .int .i64 a0_3] 37 (0, 0)) (by (with_reducible repeat (first | refine blk_drewN ?_ _ | refine blk_drew ?_ | refine blk_alloc ?_ _)); exact BK328.out)) : gb329 ≠ gb328)); clear BK328; clear HB; have BK328 := n0_; have HB := n1_; have BK329 := n2_; have GW329 := n3_; have GE329 := n4_; have NB328_329 := n5_; have NB329_328 := n6_; clear n0_ n1_ n2_ n3_ n4_ n5_ n6_; clear hb hbox hg; have hnb9 := NB328_329.out; have hnc9 := NB329_328.out; have hcz10_0 : w8.cell? ⟨gb328, 0, none⟩ = some (.int .i64 a0_0) := (blk_cell BK328.out 0).trans rfl; have hcz10_1 : w8.cell? ⟨gb328, 1, none⟩ = some (.int .u64 a0_1) := (blk_cell BK328.out 1).trans rfl; have hcz10_2 : w8.cell? ⟨gb328, 2, none⟩ = some (.string a0_2) := (blk_cell BK328.out 2).trans rfl; have hcz10_3 : w8.cell? ⟨gb328, 3, none⟩ = some (.int .i64 a0_3) := (blk_cell BK328.out 3).trans rfl; have hfz10_0 := blk_frozen BK328.out 0; have hfz10_1 := blk_frozen BK328.out 1; have hfz10_2 := blk_frozen BK328.out 2; have hfz10_3 := blk_frozen BK328.out 3; have hcz11_0 : w8.cell? ⟨gb329, 0, none⟩ = some (.int .i64 a1_0) := (blk_cell BK329.out 0).trans rfl; have hcz11_1 : w8.cell? ⟨gb329, 1, none⟩ = some (.int .u64 a1_1) := (blk_cell BK329.out 1).trans rfl; have hcz11_2 : w8.cell? ⟨gb329, 2, none⟩ = some (.string a1_2) := (blk_cell BK329.out 2).trans rfl; have hcz11_3 : w8.cell? ⟨gb329, 3, none⟩ = some (.int .i64 a1_3) := (blk_cell BK329.out 3).trans rfl; have hfz11_0 := blk_frozen BK329.out 0; have hfz11_1 := blk_frozen BK329.out 1; have hfz11_2 := blk_frozen BK329.out 2; have hfz11_3 := blk_frozen BK329.out 3))
          go_ret
          exact ⟨by first | rfl | (simp; done) | (simp [errW_none, errW_some] <;> rfl) | (simp [*, errW_none, errW_some] <;> rfl) | (simp [bne, List.isEmpty_iff]; done) | (rw [Bool.eq_iff_iff]; simp), by repeat (first | (with_reducible first | exact HB.out | apply below_alloc | apply pw_below_drewN | apply below_drew1 | refine below_set ?_ GE328.out | refine below_set ?_ GE329.out) | exact HB.out)⟩
        · rw [if_neg c6] at H
          have c6b0 : (a0_3 == a1_3) = false := beq_eq_false_iff_ne.mpr c6
          have c6b1 : (a0_3 != a1_3) = true := bne_iff_ne.mpr c6
          obtain rfl := Option.some.inj H
          go_enter Try.func28, Try.ntmps28
          go_wp2_with (first | ((with_reducible refine gate_dst (N := 2) rfl ?_); refine box_event ?hg (N := 2) ?hd (cs := #[.int .i64 a0_0, .int .u64 a0_1, .string a0_2, .int .i64 a0_3]) (t := 37) ?hr ?_; (case hd => rfl); (case hg => rfl); (case hr => first | (go_simp; done) | (go_simp; rfl)); intro gb328 hg w12 hbox hb; have n0_ := Aside0.mk (below_step (by repeat (first | (with_reducible first | exact HB.out | apply below_alloc | apply pw_below_drewN | apply below_drew1) | exact HB.out)) hb); have n1_ := Aside0.mk (hbox); have n2_ := Aside0.mk ((by rw [hg]; exact (below_size (by repeat (first | (with_reducible first | exact HB.out | apply below_alloc | apply pw_below_drewN | apply below_drew1) | exact HB.out))) : w.heap.size ≤ gb328)); have n3_ := Aside0.mk ((by rw [hg]; exact (below_size (by repeat (first | (with_reducible first | exact HB.out | apply below_alloc | apply pw_below_drewN | apply below_drew1) | exact HB.out))) : w.heap.size ≤ gb328)); clear HB; have HB := n0_; have BK328 := n1_; have GW328 := n2_; have GE328 := n3_; clear n0_ n1_ n2_ n3_; clear hb hbox hg) | ((with_reducible refine gate_dst (N := 3) rfl ?_); refine box_event ?hg (N := 3) ?hd (cs := #[.int .i64 a1_0, .int .u64 a1_1, .string a1_2, .int .i64 a1_3]) (t := 37) ?hr ?_; (case hd => rfl); (case hg => rfl); (case hr => first | (go_simp; done) | (go_simp; rfl)); intro gb329 hg w13 hbox hb; have n0_ := Aside0.mk (blk_below (g := gb328) (o := .cells #[.int .i64 a0_0, .int .u64 a0_1, .string a0_2, .int .i64 a0_3] 37 (0, 0)) (by (with_reducible repeat (first | refine blk_drewN ?_ _ | refine blk_drew ?_ | refine blk_alloc ?_ _)); exact BK328.out) hb); have n1_ := Aside0.mk (below_step (by repeat (first | (with_reducible first | exact HB.out | apply below_alloc | apply pw_below_drewN | apply below_drew1 | refine below_set ?_ GE328.out) | exact HB.out)) hb); have n2_ := Aside0.mk (hbox); have n3_ := Aside0.mk ((by rw [hg]; exact (below_size (by repeat (first | (with_reducible first | exact HB.out | apply below_alloc | apply pw_below_drewN | apply below_drew1 | refine below_set ?_ GE328.out) | exact HB.out))) : w.heap.size ≤ gb329)); have n4_ := Aside0.mk ((by rw [hg]; exact (below_size (by repeat (first | (with_reducible first | exact HB.out | apply below_alloc | apply pw_below_drewN | apply below_drew1 | refine below_set ?_ GE328.out) | exact HB.out))) : w.heap.size ≤ gb329)); have n5_ := Aside0.mk ((by rw [hg]; exact Nat.ne_of_lt (blk_lt (g := gb328) (o := .cells #[.int .i64 a0_0, .int .u64 a0_1, .string a0_2, .int .i64 a0_3] 37 (0, 0)) (by (with_reducible repeat (first | refine blk_drewN ?_ _ | refine blk_drew ?_ | refine blk_alloc ?_ _)); exact BK328.out)) : gb328 ≠ gb329)); have n6_ := Aside0.mk ((by rw [hg]; exact Nat.ne_of_gt (blk_lt (g := gb328) (o := .cells #[.int .i64 a0_0, .int .u64 a0_1, .string a0_2, .int .i64 a0_3] 37 (0, 0)) (by (with_reducible repeat (first | refine blk_drewN ?_ _ | refine blk_drew ?_ | refine blk_alloc ?_ _)); exact BK328.out)) : gb329 ≠ gb328)); clear BK328; clear HB; have BK328 := n0_; have HB := n1_; have BK329 := n2_; have GW329 := n3_; have GE329 := n4_; have NB328_329 := n5_; have NB329_328 := n6_; clear n0_ n1_ n2_ n3_ n4_ n5_ n6_; clear hb hbox hg; have hnb14 := NB328_329.out; have hnc14 := NB329_328.out; have hcz15_0 : w13.cell? ⟨gb328, 0, none⟩ = some (.int .i64 a0_0) := (blk_cell BK328.out 0).trans rfl; have hcz15_1 : w13.cell? ⟨gb328, 1, none⟩ = some (.int .u64 a0_1) := (blk_cell BK328.out 1).trans rfl; have hcz15_2 : w13.cell? ⟨gb328, 2, none⟩ = some (.string a0_2) := (blk_cell BK328.out 2).trans rfl; have hcz15_3 : w13.cell? ⟨gb328, 3, none⟩ = some (.int .i64 a0_3) := (blk_cell BK328.out 3).trans rfl; have hfz15_0 := blk_frozen BK328.out 0; have hfz15_1 := blk_frozen BK328.out 1; have hfz15_2 := blk_frozen BK328.out 2; have hfz15_3 := blk_frozen BK328.out 3; have hcz16_0 : w13.cell? ⟨gb329, 0, none⟩ = some (.int .i64 a1_0) := (blk_cell BK329.out 0).trans rfl; have hcz16_1 : w13.cell? ⟨gb329, 1, none⟩ = some (.int .u64 a1_1) := (blk_cell BK329.out 1).trans rfl; have hcz16_2 : w13.cell? ⟨gb329, 2, none⟩ = some (.string a1_2) := (blk_cell BK329.out 2).trans rfl; have hcz16_3 : w13.cell? ⟨gb329, 3, none⟩ = some (.int .i64 a1_3) := (blk_cell BK329.out 3).trans rfl; have hfz16_0 := blk_frozen BK329.out 0; have hfz16_1 := blk_frozen BK329.out 1; have hfz16_2 := blk_frozen BK329.out 2; have hfz16_3 := blk_frozen BK329.out 3))
          go_ret
          exact ⟨by first | rfl | (simp; done) | (simp [errW_none, errW_some] <;> rfl) | (simp [*, errW_none, errW_some] <;> rfl) | (simp [bne, List.isEmpty_iff]; done) | (rw [Bool.eq_iff_iff]; simp), by repeat (first | (with_reducible first | exact HB.out | apply below_alloc | apply pw_below_drewN | apply below_drew1 | refine below_set ?_ GE328.out | refine below_set ?_ GE329.out) | exact HB.out)⟩
      · rw [if_neg c5] at H
        have c5b0 : (a0_2.toList == a1_2.toList) = false := beq_eq_false_iff_ne.mpr c5
        have c5b1 : (a0_2.toList != a1_2.toList) = true := bne_iff_ne.mpr c5
        obtain rfl := Option.some.inj H
        go_enter Try.func28, Try.ntmps28
        go_wp2_with (first | ((with_reducible refine gate_dst (N := 2) rfl ?_); refine box_event ?hg (N := 2) ?hd (cs := #[.int .i64 a0_0, .int .u64 a0_1, .string a0_2, .int .i64 a0_3]) (t := 37) ?hr ?_; (case hd => rfl); (case hg => rfl); (case hr => first | (go_simp; done) | (go_simp; rfl)); intro gb328 hg w17 hbox hb; have n0_ := Aside0.mk (below_step (by repeat (first | (with_reducible first | exact HB.out | apply below_alloc | apply pw_below_drewN | apply below_drew1) | exact HB.out)) hb); have n1_ := Aside0.mk (hbox); have n2_ := Aside0.mk ((by rw [hg]; exact (below_size (by repeat (first | (with_reducible first | exact HB.out | apply below_alloc | apply pw_below_drewN | apply below_drew1) | exact HB.out))) : w.heap.size ≤ gb328)); have n3_ := Aside0.mk ((by rw [hg]; exact (below_size (by repeat (first | (with_reducible first | exact HB.out | apply below_alloc | apply pw_below_drewN | apply below_drew1) | exact HB.out))) : w.heap.size ≤ gb328)); clear HB; have HB := n0_; have BK328 := n1_; have GW328 := n2_; have GE328 := n3_; clear n0_ n1_ n2_ n3_; clear hb hbox hg) | ((with_reducible refine gate_dst (N := 3) rfl ?_); refine box_event ?hg (N := 3) ?hd (cs := #[.int .i64 a1_0, .int .u64 a1_1, .string a1_2, .int .i64 a1_3]) (t := 37) ?hr ?_; (case hd => rfl); (case hg => rfl); (case hr => first | (go_simp; done) | (go_simp; rfl)); intro gb329 hg w18 hbox hb; have n0_ := Aside0.mk (blk_below (g := gb328) (o := .cells #[.int .i64 a0_0, .int .u64 a0_1, .string a0_2, .int .i64 a0_3] 37 (0, 0)) (by (with_reducible repeat (first | refine blk_drewN ?_ _ | refine blk_drew ?_ | refine blk_alloc ?_ _)); exact BK328.out) hb); have n1_ := Aside0.mk (below_step (by repeat (first | (with_reducible first | exact HB.out | apply below_alloc | apply pw_below_drewN | apply below_drew1 | refine below_set ?_ GE328.out) | exact HB.out)) hb); have n2_ := Aside0.mk (hbox); have n3_ := Aside0.mk ((by rw [hg]; exact (below_size (by repeat (first | (with_reducible first | exact HB.out | apply below_alloc | apply pw_below_drewN | apply below_drew1 | refine below_set ?_ GE328.out) | exact HB.out))) : w.heap.size ≤ gb329)); have n4_ := Aside0.mk ((by rw [hg]; exact (below_size (by repeat (first | (with_reducible first | exact HB.out | apply below_alloc | apply pw_below_drewN | apply below_drew1 | refine below_set ?_ GE328.out) | exact HB.out))) : w.heap.size ≤ gb329)); have n5_ := Aside0.mk ((by rw [hg]; exact Nat.ne_of_lt (blk_lt (g := gb328) (o := .cells #[.int .i64 a0_0, .int .u64 a0_1, .string a0_2, .int .i64 a0_3] 37 (0, 0)) (by (with_reducible repeat (first | refine blk_drewN ?_ _ | refine blk_drew ?_ | refine blk_alloc ?_ _)); exact BK328.out)) : gb328 ≠ gb329)); have n6_ := Aside0.mk ((by rw [hg]; exact Nat.ne_of_gt (blk_lt (g := gb328) (o := .cells #[.int .i64 a0_0, .int .u64 a0_1, .string a0_2, .int .i64 a0_3] 37 (0, 0)) (by (with_reducible repeat (first | refine blk_drewN ?_ _ | refine blk_drew ?_ | refine blk_alloc ?_ _)); exact BK328.out)) : gb329 ≠ gb328)); clear BK328; clear HB; have BK328 := n0_; have HB := n1_; have BK329 := n2_; have GW329 := n3_; have GE329 := n4_; have NB328_329 := n5_; have NB329_328 := n6_; clear n0_ n1_ n2_ n3_ n4_ n5_ n6_; clear hb hbox hg; have hnb19 := NB328_329.out; have hnc19 := NB329_328.out; have hcz20_0 : w18.cell? ⟨gb328, 0, none⟩ = some (.int .i64 a0_0) := (blk_cell BK328.out 0).trans rfl; have hcz20_1 : w18.cell? ⟨gb328, 1, none⟩ = some (.int .u64 a0_1) := (blk_cell BK328.out 1).trans rfl; have hcz20_2 : w18.cell? ⟨gb328, 2, none⟩ = some (.string a0_2) := (blk_cell BK328.out 2).trans rfl; have hcz20_3 : w18.cell? ⟨gb328, 3, none⟩ = some (.int .i64 a0_3) := (blk_cell BK328.out 3).trans rfl; have hfz20_0 := blk_frozen BK328.out 0; have hfz20_1 := blk_frozen BK328.out 1; have hfz20_2 := blk_frozen BK328.out 2; have hfz20_3 := blk_frozen BK328.out 3; have hcz21_0 : w18.cell? ⟨gb329, 0, none⟩ = some (.int .i64 a1_0) := (blk_cell BK329.out 0).trans rfl; have hcz21_1 : w18.cell? ⟨gb329, 1, none⟩ = some (.int .u64 a1_1) := (blk_cell BK329.out 1).trans rfl; have hcz21_2 : w18.cell? ⟨gb329, 2, none⟩ = some (.string a1_2) := (blk_cell BK329.out 2).trans rfl; have hcz21_3 : w18.cell? ⟨gb329, 3, none⟩ = some (.int .i64 a1_3) := (blk_cell BK329.out 3).trans rfl; have hfz21_0 := blk_frozen BK329.out 0; have hfz21_1 := blk_frozen BK329.out 1; have hfz21_2 := blk_frozen BK329.out 2; have hfz21_3 := blk_frozen BK329.out 3))
        go_ret
        exact ⟨by first | rfl | (simp; done) | (simp [errW_none, errW_some] <;> rfl) | (simp [*, errW_none, errW_some] <;> rfl) | (simp [bne, List.isEmpty_iff]; done) | (rw [Bool.eq_iff_iff]; simp), by repeat (first | (with_reducible first | exact HB.out | apply below_alloc | apply pw_below_drewN | apply below_drew1 | refine below_set ?_ GE328.out | refine below_set ?_ GE329.out) | exact HB.out)⟩
    · rw [if_neg c4] at H
      have c4b0 : (a0_1 == a1_1) = false := beq_eq_false_iff_ne.mpr c4
      have c4b1 : (a0_1 != a1_1) = true := bne_iff_ne.mpr c4
      obtain rfl := Option.some.inj H
      go_enter Try.func28, Try.ntmps28
      go_wp2_with (first | ((with_reducible refine gate_dst (N := 2) rfl ?_); refine box_event ?hg (N := 2) ?hd (cs := #[.int .i64 a0_0, .int .u64 a0_1, .string a0_2, .int .i64 a0_3]) (t := 37) ?hr ?_; (case hd => rfl); (case hg => rfl); (case hr => first | (go_simp; done) | (go_simp; rfl)); intro gb328 hg w22 hbox hb; have n0_ := Aside0.mk (below_step (by repeat (first | (with_reducible first | exact HB.out | apply below_alloc | apply pw_below_drewN | apply below_drew1) | exact HB.out)) hb); have n1_ := Aside0.mk (hbox); have n2_ := Aside0.mk ((by rw [hg]; exact (below_size (by repeat (first | (with_reducible first | exact HB.out | apply below_alloc | apply pw_below_drewN | apply below_drew1) | exact HB.out))) : w.heap.size ≤ gb328)); have n3_ := Aside0.mk ((by rw [hg]; exact (below_size (by repeat (first | (with_reducible first | exact HB.out | apply below_alloc | apply pw_below_drewN | apply below_drew1) | exact HB.out))) : w.heap.size ≤ gb328)); clear HB; have HB := n0_; have BK328 := n1_; have GW328 := n2_; have GE328 := n3_; clear n0_ n1_ n2_ n3_; clear hb hbox hg) | ((with_reducible refine gate_dst (N := 3) rfl ?_); refine box_event ?hg (N := 3) ?hd (cs := #[.int .i64 a1_0, .int .u64 a1_1, .string a1_2, .int .i64 a1_3]) (t := 37) ?hr ?_; (case hd => rfl); (case hg => rfl); (case hr => first | (go_simp; done) | (go_simp; rfl)); intro gb329 hg w23 hbox hb; have n0_ := Aside0.mk (blk_below (g := gb328) (o := .cells #[.int .i64 a0_0, .int .u64 a0_1, .string a0_2, .int .i64 a0_3] 37 (0, 0)) (by (with_reducible repeat (first | refine blk_drewN ?_ _ | refine blk_drew ?_ | refine blk_alloc ?_ _)); exact BK328.out) hb); have n1_ := Aside0.mk (below_step (by repeat (first | (with_reducible first | exact HB.out | apply below_alloc | apply pw_below_drewN | apply below_drew1 | refine below_set ?_ GE328.out) | exact HB.out)) hb); have n2_ := Aside0.mk (hbox); have n3_ := Aside0.mk ((by rw [hg]; exact (below_size (by repeat (first | (with_reducible first | exact HB.out | apply below_alloc | apply pw_below_drewN | apply below_drew1 | refine below_set ?_ GE328.out) | exact HB.out))) : w.heap.size ≤ gb329)); have n4_ := Aside0.mk ((by rw [hg]; exact (below_size (by repeat (first | (with_reducible first | exact HB.out | apply below_alloc | apply pw_below_drewN | apply below_drew1 | refine below_set ?_ GE328.out) | exact HB.out))) : w.heap.size ≤ gb329)); have n5_ := Aside0.mk ((by rw [hg]; exact Nat.ne_of_lt (blk_lt (g := gb328) (o := .cells #[.int .i64 a0_0, .int .u64 a0_1, .string a0_2, .int .i64 a0_3] 37 (0, 0)) (by (with_reducible repeat (first | refine blk_drewN ?_ _ | refine blk_drew ?_ | refine blk_alloc ?_ _)); exact BK328.out)) : gb328 ≠ gb329)); have n6_ := Aside0.mk ((by rw [hg]; exact Nat.ne_of_gt (blk_lt (g := gb328) (o := .cells #[.int .i64 a0_0, .int .u64 a0_1, .string a0_2, .int .i64 a0_3] 37 (0, 0)) (by (with_reducible repeat (first | refine blk_drewN ?_ _ | refine blk_drew ?_ | refine blk_alloc ?_ _)); exact BK328.out)) : gb329 ≠ gb328)); clear BK328; clear HB; have BK328 := n0_; have HB := n1_; have BK329 := n2_; have GW329 := n3_; have GE329 := n4_; have NB328_329 := n5_; have NB329_328 := n6_; clear n0_ n1_ n2_ n3_ n4_ n5_ n6_; clear hb hbox hg; have hnb24 := NB328_329.out; have hnc24 := NB329_328.out; have hcz25_0 : w23.cell? ⟨gb328, 0, none⟩ = some (.int .i64 a0_0) := (blk_cell BK328.out 0).trans rfl; have hcz25_1 : w23.cell? ⟨gb328, 1, none⟩ = some (.int .u64 a0_1) := (blk_cell BK328.out 1).trans rfl; have hcz25_2 : w23.cell? ⟨gb328, 2, none⟩ = some (.string a0_2) := (blk_cell BK328.out 2).trans rfl; have hcz25_3 : w23.cell? ⟨gb328, 3, none⟩ = some (.int .i64 a0_3) := (blk_cell BK328.out 3).trans rfl; have hfz25_0 := blk_frozen BK328.out 0; have hfz25_1 := blk_frozen BK328.out 1; have hfz25_2 := blk_frozen BK328.out 2; have hfz25_3 := blk_frozen BK328.out 3; have hcz26_0 : w23.cell? ⟨gb329, 0, none⟩ = some (.int .i64 a1_0) := (blk_cell BK329.out 0).trans rfl; have hcz26_1 : w23.cell? ⟨gb329, 1, none⟩ = some (.int .u64 a1_1) := (blk_cell BK329.out 1).trans rfl; have hcz26_2 : w23.cell? ⟨gb329, 2, none⟩ = some (.string a1_2) := (blk_cell BK329.out 2).trans rfl; have hcz26_3 : w23.cell? ⟨gb329, 3, none⟩ = some (.int .i64 a1_3) := (blk_cell BK329.out 3).trans rfl; have hfz26_0 := blk_frozen BK329.out 0; have hfz26_1 := blk_frozen BK329.out 1; have hfz26_2 := blk_frozen BK329.out 2; have hfz26_3 := blk_frozen BK329.out 3))
      go_ret
      exact ⟨by first | rfl | (simp; done) | (simp [errW_none, errW_some] <;> rfl) | (simp [*, errW_none, errW_some] <;> rfl) | (simp [bne, List.isEmpty_iff]; done) | (rw [Bool.eq_iff_iff]; simp), by repeat (first | (with_reducible first | exact HB.out | apply below_alloc | apply pw_below_drewN | apply below_drew1 | refine below_set ?_ GE328.out | refine below_set ?_ GE329.out) | exact HB.out)⟩
  · rw [if_neg c3] at H
    have c3b0 : (a0_0 == a1_0) = false := beq_eq_false_iff_ne.mpr c3
    have c3b1 : (a0_0 != a1_0) = true := bne_iff_ne.mpr c3
    obtain rfl := Option.some.inj H
    go_enter Try.func28, Try.ntmps28
    go_wp2_with (first | ((with_reducible refine gate_dst (N := 2) rfl ?_); refine box_event ?hg (N := 2) ?hd (cs := #[.int .i64 a0_0, .int .u64 a0_1, .string a0_2, .int .i64 a0_3]) (t := 37) ?hr ?_; (case hd => rfl); (case hg => rfl); (case hr => first | (go_simp; done) | (go_simp; rfl)); intro gb328 hg w27 hbox hb; have n0_ := Aside0.mk (below_step (by repeat (first | (with_reducible first | exact HB.out | apply below_alloc | apply pw_below_drewN | apply below_drew1) | exact HB.out)) hb); have n1_ := Aside0.mk (hbox); have n2_ := Aside0.mk ((by rw [hg]; exact (below_size (by repeat (first | (with_reducible first | exact HB.out | apply below_alloc | apply pw_below_drewN | apply below_drew1) | exact HB.out))) : w.heap.size ≤ gb328)); have n3_ := Aside0.mk ((by rw [hg]; exact (below_size (by repeat (first | (with_reducible first | exact HB.out | apply below_alloc | apply pw_below_drewN | apply below_drew1) | exact HB.out))) : w.heap.size ≤ gb328)); clear HB; have HB := n0_; have BK328 := n1_; have GW328 := n2_; have GE328 := n3_; clear n0_ n1_ n2_ n3_; clear hb hbox hg) | ((with_reducible refine gate_dst (N := 3) rfl ?_); refine box_event ?hg (N := 3) ?hd (cs := #[.int .i64 a1_0, .int .u64 a1_1, .string a1_2, .int .i64 a1_3]) (t := 37) ?hr ?_; (case hd => rfl); (case hg => rfl); (case hr => first | (go_simp; done) | (go_simp; rfl)); intro gb329 hg w28 hbox hb; have n0_ := Aside0.mk (blk_below (g := gb328) (o := .cells #[.int .i64 a0_0, .int .u64 a0_1, .string a0_2, .int .i64 a0_3] 37 (0, 0)) (by (with_reducible repeat (first | refine blk_drewN ?_ _ | refine blk_drew ?_ | refine blk_alloc ?_ _)); exact BK328.out) hb); have n1_ := Aside0.mk (below_step (by repeat (first | (with_reducible first | exact HB.out | apply below_alloc | apply pw_below_drewN | apply below_drew1 | refine below_set ?_ GE328.out) | exact HB.out)) hb); have n2_ := Aside0.mk (hbox); have n3_ := Aside0.mk ((by rw [hg]; exact (below_size (by repeat (first | (with_reducible first | exact HB.out | apply below_alloc | apply pw_below_drewN | apply below_drew1 | refine below_set ?_ GE328.out) | exact HB.out))) : w.heap.size ≤ gb329)); have n4_ := Aside0.mk ((by rw [hg]; exact (below_size (by repeat (first | (with_reducible first | exact HB.out | apply below_alloc | apply pw_below_drewN | apply below_drew1 | refine below_set ?_ GE328.out) | exact HB.out))) : w.heap.size ≤ gb329)); have n5_ := Aside0.mk ((by rw [hg]; exact Nat.ne_of_lt (blk_lt (g := gb328) (o := .cells #[.int .i64 a0_0, .int .u64 a0_1, .string a0_2, .int .i64 a0_3] 37 (0, 0)) (by (with_reducible repeat (first | refine blk_drewN ?_ _ | refine blk_drew ?_ | refine blk_alloc ?_ _)); exact BK328.out)) : gb328 ≠ gb329)); have n6_ := Aside0.mk ((by rw [hg]; exact Nat.ne_of_gt (blk_lt (g := gb328) (o := .cells #[.int .i64 a0_0, .int .u64 a0_1, .string a0_2, .int .i64 a0_3] 37 (0, 0)) (by (with_reducible repeat (first | refine blk_drewN ?_ _ | refine blk_drew ?_ | refine blk_alloc ?_ _)); exact BK328.out)) : gb329 ≠ gb328)); clear BK328; clear HB; have BK328 := n0_; have HB := n1_; have BK329 := n2_; have GW329 := n3_; have GE329 := n4_; have NB328_329 := n5_; have NB329_328 := n6_; clear n0_ n1_ n2_ n3_ n4_ n5_ n6_; clear hb hbox hg; have hnb29 := NB328_329.out; have hnc29 := NB329_328.out; have hcz30_0 : w28.cell? ⟨gb328, 0, none⟩ = some (.int .i64 a0_0) := (blk_cell BK328.out 0).trans rfl; have hcz30_1 : w28.cell? ⟨gb328, 1, none⟩ = some (.int .u64 a0_1) := (blk_cell BK328.out 1).trans rfl; have hcz30_2 : w28.cell? ⟨gb328, 2, none⟩ = some (.string a0_2) := (blk_cell BK328.out 2).trans rfl; have hcz30_3 : w28.cell? ⟨gb328, 3, none⟩ = some (.int .i64 a0_3) := (blk_cell BK328.out 3).trans rfl; have hfz30_0 := blk_frozen BK328.out 0; have hfz30_1 := blk_frozen BK328.out 1; have hfz30_2 := blk_frozen BK328.out 2; have hfz30_3 := blk_frozen BK328.out 3; have hcz31_0 : w28.cell? ⟨gb329, 0, none⟩ = some (.int .i64 a1_0) := (blk_cell BK329.out 0).trans rfl; have hcz31_1 : w28.cell? ⟨gb329, 1, none⟩ = some (.int .u64 a1_1) := (blk_cell BK329.out 1).trans rfl; have hcz31_2 : w28.cell? ⟨gb329, 2, none⟩ = some (.string a1_2) := (blk_cell BK329.out 2).trans rfl; have hcz31_3 : w28.cell? ⟨gb329, 3, none⟩ = some (.int .i64 a1_3) := (blk_cell BK329.out 3).trans rfl; have hfz31_0 := blk_frozen BK329.out 0; have hfz31_1 := blk_frozen BK329.out 1; have hfz31_2 := blk_frozen BK329.out 2; have hfz31_3 := blk_frozen BK329.out 3))
    go_ret
    exact ⟨by first | rfl | (simp; done) | (simp [errW_none, errW_some] <;> rfl) | (simp [*, errW_none, errW_some] <;> rfl) | (simp [bne, List.isEmpty_iff]; done) | (rw [Bool.eq_iff_iff]; simp), by repeat (first | (with_reducible first | exact HB.out | apply below_alloc | apply pw_below_drewN | apply below_drew1 | refine below_set ?_ GE328.out | refine below_set ?_ GE329.out) | exact HB.out)⟩
-- NOT PRINTED: function 6 (laws_FnExactDoBinary)
end Go.Proofs.Ytokhgodcamhibaa.QFnExactDoBinary
end
section
namespace Go.Proofs.Ytokhgodcamhibaa.Dob
open Go.RowKit Go.Proofs.YtokhgodcamhibaaW.PrintWords Go.Proofs.YtokhgodcamhibaaW.PrintLast Go.Proofs.YtokhgodcamhibaaW.PrintMore Go.Proofs.Ytokhgodcamhibaa.Law Go.Proofs.Ytokhgodcamhibaa.Fl Go.Proofs.Ytokhgodcamhibaa.FlI Go.Proofs.Ytokhgodcamhibaa.Num Go.Proofs.Ytokhgodcamhibaa.QFnExactDoBinary Go.Proofs.Ytokhgodcamhibaa Go.Proofs.Ytokhgodcamhibaa.Steps Ieee
set_option linter.unusedVariables false
set_option linter.unusedSimpArgs false
theorem boxed {w W w1 : World} {H : List Hold} (h : Mem w W H) {g : Nat} {cs : Array Value} {t : TypeId} (hg : g = W.heap.size) (hx : w1.heap[g]? = some (.cells cs t (0, 0))) (hb : Below W.heap.size W w1) : Mem w w1 (Hold.box g cs t :: H) := by
  subst hg
  have h2 := h.step hb
  refine ⟨h2.below, fun x hx' => ?_, fun x hx' => ?_, List.Pairwise.cons (fun b hb => .inl (h.fits b hb).2) h.apart⟩
  · rcases List.mem_cons.1 hx' with rfl | hx'
    · exact hx
    · exact h2.says x hx'
  · rcases List.mem_cons.1 hx' with rfl | hx'
    · refine ⟨h.below.size, ?_⟩
      have := (Array.getElem?_eq_some_iff.1 hx).1
      show W.heap.size + 1 ≤ w1.heap.size
      omega
    · exact h2.fits x hx'
theorem eq_self (k m : Int) (s : ByteArray) (r : Int) : laws_eqValue.f k m s r k m s r = some true := by
  unfold laws_eqValue.f
  rw [if_pos rfl, if_pos rfl, if_pos rfl, if_pos rfl]
def dobL.T8 : Bool × List (List Nat × List Nat) := (true, [([], []), ([], []), ([1], [1]), ([], []), ([3, 2], [3]), ([0, 2, 4, 4], [0, 2, 4]), ([5], [5]), ([6], [6]), ([6], [6]), ([], []), ([9, 7, 5, 0, 1, 2, 3, 4, 5, 6, 7, 9], [7, 9]), ([8, 10, 0, 1, 2, 3, 4, 5, 6, 7, 8, 9, 10], [8])])
def dobL.B8 : List Nat := [0, 0, 2, 0, 14, 31, 63, 127, 127, 0, 767, 2047]
theorem dobL.tab8 : rtab .any (opsOf Try.f6 8) = dobL.T8 := by kernel_rfl
theorem dobL.bits8 : waitsOk dobL.T8.2 dobL.B8 = true := by kernel_rfl
def dobL.T9 : Bool × List (List Nat × List Nat) := (true, [([], []), ([], []), ([1], [1]), ([], []), ([3, 2], [3]), ([0, 2, 4, 4], [0, 2, 4]), ([5], [5]), ([6], [6]), ([6], [6]), ([], []), ([9, 7, 5, 0, 1, 2, 3, 4, 5, 6, 7, 9], [7, 9]), ([8, 10, 0, 1, 2, 3, 4, 5, 6, 7, 8, 9, 10], [8])])
def dobL.B9 : List Nat := [0, 0, 2, 0, 14, 31, 63, 127, 127, 0, 767, 2047]
theorem dobL.tab9 : rtab .any (opsOf Try.f6 9) = dobL.T9 := by kernel_rfl
theorem dobL.bits9 : waitsOk dobL.T9.2 dobL.B9 = true := by kernel_rfl
set_option maxHeartbeats 8000000 in
set_option maxRecDepth 100000 in
theorem w1 (op k1 n1 r1 k2 n2 r2 : Int) (t1 t2 : ByteArray) (w : World) (s1 : Int) (h1 : laws_szValue.f k1 n1 t1 r1 1048576 = some s1) (n1' : s1 < 0) :
    Calls Try.prog 6 #[.int .i64 op, .agg #[.int .i64 k1, .int .u64 n1, .string t1, .int .i64 r1], .agg #[.int .i64 k2, .int .u64 n2, .string t2, .int .i64 r2]] w fun e w' => e = .returned (.bool true) ∧ Below w.heap.size w w' := by
  have hu45 := Try.underlying43; have hu48 := Try.underlying37
  have H1 := Aside0.mk h1; clear h1
  have m1 : decide (s1 < 0) = true := by simpa using n1'
  have M0 := Aside0.mk (((Mem.start w).allocAt (g := w.heap.size) rfl #[.int .i64 k1, .int .u64 n1, .string t1, .int .i64 r1] 43).allocAt (g := w.heap.size + 1) (by simp) #[.int .i64 k2, .int .u64 n2, .string t2, .int .i64 r2] 43)
  have z0 := M0.out.box (.tail _ (.head _)); have z1 := M0.out.box (.head _)
  go_enter Try.func6, Try.ntmps6
  go_wp2_with fail
  refine (laws_szValue.calls _ _ _ _ _ s1 _ H1.out).mono ?_
  rintro e w1 ⟨rfl, hb⟩
  have M1 := Aside0.mk (M0.out.step hb); clear M0 hb z0 z1; have z0 := M1.out.box (.tail _ (.head _)); have z1 := M1.out.box (.head _)
  go_wp2
  go_ret
  exact ⟨rfl, M1.out.below⟩
set_option maxHeartbeats 8000000 in
set_option maxRecDepth 100000 in
theorem w2 (op k1 n1 r1 k2 n2 r2 : Int) (t1 t2 : ByteArray) (w : World) (s1 : Int) (h1 : laws_szValue.f k1 n1 t1 r1 1048576 = some s1) (n1' : 0 ≤ s1) (s2 : Int) (h2 : laws_szValue.f k2 n2 t2 r2 s1 = some s2) (n2' : s2 < 0) :
    Calls Try.prog 6 #[.int .i64 op, .agg #[.int .i64 k1, .int .u64 n1, .string t1, .int .i64 r1], .agg #[.int .i64 k2, .int .u64 n2, .string t2, .int .i64 r2]] w fun e w' => e = .returned (.bool true) ∧ Below w.heap.size w w' := by
  have hu45 := Try.underlying43; have hu48 := Try.underlying37
  have H1 := Aside0.mk h1; clear h1; have H2 := Aside0.mk h2; clear h2
  have m1 : decide (s1 < 0) = false := by simp; omega
  have m2 : decide (s2 < 0) = true := by simpa using n2'
  have M0 := Aside0.mk (((Mem.start w).allocAt (g := w.heap.size) rfl #[.int .i64 k1, .int .u64 n1, .string t1, .int .i64 r1] 43).allocAt (g := w.heap.size + 1) (by simp) #[.int .i64 k2, .int .u64 n2, .string t2, .int .i64 r2] 43)
  have z0 := M0.out.box (.tail _ (.head _)); have z1 := M0.out.box (.head _)
  go_enter Try.func6, Try.ntmps6
  go_wp2_with fail
  refine (laws_szValue.calls _ _ _ _ _ s1 _ H1.out).mono ?_
  rintro e w1 ⟨rfl, hb⟩
  have M1 := Aside0.mk (M0.out.step hb); clear M0 hb z0 z1; have z0 := M1.out.box (.tail _ (.head _)); have z1 := M1.out.box (.head _)
  go_wp2_with fail
  refine (laws_szValue.calls _ _ _ _ _ s2 _ H2.out).mono ?_
  rintro e w2 ⟨rfl, hb⟩
  have M2 := Aside0.mk (M1.out.step hb); clear M1 hb z0 z1; have z0 := M2.out.box (.tail _ (.head _)); have z1 := M2.out.box (.head _)
  go_wp2
  go_ret
  exact ⟨rfl, M2.out.below⟩
set_option maxHeartbeats 8000000 in
set_option maxRecDepth 100000 in
theorem w3 (op k1 n1 r1 k2 n2 r2 : Int) (t1 t2 : ByteArray) (w : World) (s1 : Int) (h1 : laws_szValue.f k1 n1 t1 r1 1048576 = some s1) (n1' : 0 ≤ s1) (s2 : Int) (h2 : laws_szValue.f k2 n2 t2 r2 s1 = some s2) (n2' : 0 ≤ s2) (hn1 : 0 ≤ n1 ∧ n1 < 18446744073709551616) (hn2 : 0 ≤ n2 ∧ n2 < 18446744073709551616) (hs1 : t1.size ≤ 1048576) (hs2 : t2.size ≤ 1048576) :
    Calls Try.prog 6 #[.int .i64 op, .agg #[.int .i64 k1, .int .u64 n1, .string t1, .int .i64 r1], .agg #[.int .i64 k2, .int .u64 n2, .string t2, .int .i64 r2]] w fun e w' => e = .returned (.bool true) ∧ Below w.heap.size w w' := by
  have hu45 := Try.underlying43; have hu48 := Try.underlying37
  have H1 := Aside0.mk h1; clear h1; have H2 := Aside0.mk h2; clear h2
  have m1 : decide (s1 < 0) = false := by simp; omega
  have m2 : decide (s2 < 0) = false := by simp; omega
  clear n1' n2'
  obtain ⟨cv, hcv⟩ : ∃ cv, binV op k1 n1 t1 r1 k2 n2 t2 r2 = cv := ⟨_, rfl⟩
  have HCV := Aside0.mk hcv; clear hcv
  obtain ⟨k, m, s, r, z⟩ := cv
  have HA := Aside0.mk (And.intro (And.intro hn1 hn2) (And.intro hs1 hs2)); clear hn1 hn2 hs1 hs2
  have M0 := Aside0.mk (((Mem.start w).allocAt (g := w.heap.size) rfl #[.int .i64 k1, .int .u64 n1, .string t1, .int .i64 r1] 43).allocAt (g := w.heap.size + 1) (by simp) #[.int .i64 k2, .int .u64 n2, .string t2, .int .i64 r2] 43)
  have z0 := M0.out.box (.tail _ (.head _)); have z1 := M0.out.box (.head _)
  go_enter Try.func6, Try.ntmps6
  go_wp2_with fail
  refine (laws_szValue.calls _ _ _ _ _ s1 _ H1.out).mono ?_
  rintro e w1 ⟨rfl, hb⟩
  have M1 := Aside0.mk (M0.out.step hb); clear M0 hb z0 z1; have z0 := M1.out.box (.tail _ (.head _)); have z1 := M1.out.box (.head _)
  go_wp2_with fail
  refine (laws_szValue.calls _ _ _ _ _ s2 _ H2.out).mono ?_
  rintro e w2 ⟨rfl, hb⟩
  have M2 := Aside0.mk (M1.out.step hb); clear M1 hb z0 z1; have z0 := M2.out.box (.tail _ (.head _)); have z1 := M2.out.box (.head _)
  go_upto_region 8 with fail
  clear z0 z1
  go_cut [8, 9] (fun u v wx => ∃ (g : Nat) (W : World), u = .pointer (some ⟨g, 0, none⟩) ∧ v = .string z ∧ Aside0 (W = wx) ∧ Aside0 (Mem w W ([Hold.box g #[.int .i64 k, .int .u64 m, .string s, .int .i64 r] 37, Hold.box (w.heap.size + 1) #[.int .i64 k2, .int .u64 n2, .string t2, .int .i64 r2] 43, Hold.box w.heap.size #[.int .i64 k1, .int .u64 n1, .string t1, .int .i64 r1] 43])))
  case first =>
    refine sz 12 (fun W => (∀ o, W.cell? ⟨w.heap.size, o, none⟩ = (#[.int .i64 k1, .int .u64 n1, .string t1, .int .i64 r1] : Array Value)[o]?) ∧ (∀ o, W.cell? ⟨w.heap.size + 1, o, none⟩ = (#[.int .i64 k2, .int .u64 n2, .string t2, .int .i64 r2] : Array Value)[o]?)) [10] dobL.tab8 dobL.bits8 ⟨M2.out.drew.box (.tail _ (.head _)), M2.out.drew.box (.head _)⟩ (fun HT_ HW_ hHeld => ?_)
    have MD := Aside0.mk M2.out.drew; clear M2
    generalize World.drew _ = wd at MD hHeld ⊢
    refine pz 0 23 ?_; refine tz 1 24 ?_; refine tz 3 26 ?_
    refine twz 2 9 (some 25) (some 8) (fun K hK => ?_) (fun K hK => ?_)
    · skip
      refine gz Try.func27 #[.agg #[.int .i64 k1, .int .u64 n1, .string t1, .int .i64 r1]] ?_
      refine (laws_toValue.calls k1 n1 t1 r1 k1 n1 t1 r1 _ rfl).mono ?_; rintro e x1 ⟨rfl, hb⟩
      have MX1 := Aside0.mk (MD.out.step hb); clear hb MD
      refine ⟨_, rfl, ?_⟩
      refine hK.out _ _ ⟨MX1.out.box (.tail _ (.head _)), MX1.out.box (.head _)⟩ (fun hHeld => ?_); clear hK K; refine kz (some 25) ?_
      refine twz 4 9 (some 27) (some 8) (fun K hK => ?_) (fun K hK => ?_)
      · skip
        refine gz Try.func27 #[.agg #[.int .i64 k2, .int .u64 n2, .string t2, .int .i64 r2]] ?_
        refine (laws_toValue.calls k2 n2 t2 r2 k2 n2 t2 r2 _ rfl).mono ?_; rintro e x2 ⟨rfl, hb⟩
        have MX2 := Aside0.mk (MX1.out.step hb); clear hb MX1
        refine ⟨_, rfl, ?_⟩
        refine hK.out _ _ ⟨MX2.out.box (.tail _ (.head _)), MX2.out.box (.head _)⟩ (fun hHeld => ?_); clear hK K; refine kz (some 27) ?_
        refine twz 5 9 (some 28) (some 8) (fun K hK => ?_) (fun K hK => ?_)
        · skip
          refine gz Try.func26 #[.int .i64 op, .agg #[.int .i64 k1, .int .u64 n1, .string t1, .int .i64 r1], .agg #[.int .i64 k2, .int .u64 n2, .string t2, .int .i64 r2]] ?_
          have C := fun W => doBinS op k1 n1 r1 k2 n2 r2 t1 t2 W HA.out.1.1 HA.out.1.2 HA.out.2.1 HA.out.2.2
          rw [HCV.out] at C
          dsimp only at C
          refine (C _).mono ?_; clear C; rintro e x3 ⟨rfl, hb⟩
          have MX3 := Aside0.mk (MX2.out.step hb); clear hb MX2
          refine ⟨_, rfl, ?_⟩
          refine hK.out _ _ ⟨MX3.out.box (.tail _ (.head _)), MX3.out.box (.head _)⟩ (fun hHeld => ?_); clear hK K; refine kz (some 28) ?_
          refine pz 6 22 ?_; refine pz 7 29 ?_; refine pz 8 30 ?_
          refine ez 9 (some 8) (fun K hK => ?_)
          refine box_step ?hg (N := 8) ?hd (cs := #[.int .i64 0, .int .u64 0, .string (⟨#[]⟩ : ByteArray), .int .i64 0]) (t := 37) ?hr ?_; (case hd => rfl); (case hg => rfl); (case hr => first | (go_simp; done) | (go_simp; rfl))
          intro g8 hg x4 hbx hbb
          have MX4 := Aside0.mk (boxed MX3.out hg hbx hbb); clear hg hbx hbb MX3
          refine hK.out _ _ ⟨MX4.out.box (.tail _ (.tail _ (.head _))), MX4.out.box (.tail _ (.head _))⟩ (fun hHeld => ?_); clear hK K; refine kz (some 8) ?_
          refine lz 10 none (fun K hK => ?_)
          have b0 := MX4.out.box (.head _); have b1 := MX4.out.free (.head _)
          refine skip_ (w1 := ?_) (by rfl) rfl ?_ ?_
          rotate_left
          · go_simp
            rfl
          clear b0 b1
          refine hK.out _ _ ?_; clear hK K
          refine pz 11 9 ?_
          refine dz ?_
          clear hHeld
          have M9 := Aside0.mk ((((MX4.out.set (A := []) 0 (.int .i64 k) rfl).set (A := []) 1 (.int .u64 m) rfl).set (A := []) 2 (.string s) rfl).set (A := []) 3 (.int .i64 r) rfl)
          try go_wp2_with fail
          go_meet
          exact ⟨g8, _, rfl, rfl, ⟨rfl⟩, M9⟩
        · skip
          refine box_step ?hg (N := 8) ?hd (cs := #[.int .i64 0, .int .u64 0, .string (⟨#[]⟩ : ByteArray), .int .i64 0]) (t := 37) ?hr ?_; (case hd => rfl); (case hg => rfl); (case hr => first | (go_simp; done) | (go_simp; rfl))
          intro g8 hg x3 hbx hbb
          have MX3 := Aside0.mk (boxed MX2.out hg hbx hbb); clear hg hbx hbb MX2
          refine hK.out _ _ ⟨MX3.out.box (.tail _ (.tail _ (.head _))), MX3.out.box (.tail _ (.head _))⟩ (fun hHeld => ?_); clear hK K; refine kz (some 8) ?_
          refine ez 5 (some 28) (fun K hK => ?_)
          refine gz Try.func26 #[.int .i64 op, .agg #[.int .i64 k1, .int .u64 n1, .string t1, .int .i64 r1], .agg #[.int .i64 k2, .int .u64 n2, .string t2, .int .i64 r2]] ?_
          have C := fun W => doBinS op k1 n1 r1 k2 n2 r2 t1 t2 W HA.out.1.1 HA.out.1.2 HA.out.2.1 HA.out.2.2
          rw [HCV.out] at C
          dsimp only at C
          refine (C _).mono ?_; clear C; rintro e x4 ⟨rfl, hb⟩
          have MX4 := Aside0.mk (MX3.out.step hb); clear hb MX3
          refine ⟨_, rfl, ?_⟩
          refine hK.out _ _ ⟨MX4.out.box (.tail _ (.tail _ (.head _))), MX4.out.box (.tail _ (.head _))⟩ (fun hHeld => ?_); clear hK K; refine kz (some 28) ?_
          refine pz 6 22 ?_; refine pz 7 29 ?_; refine pz 8 30 ?_
          refine lz 10 none (fun K hK => ?_)
          have b0 := MX4.out.box (.head _); have b1 := MX4.out.free (.head _)
          refine skip_ (w1 := ?_) (by rfl) rfl ?_ ?_
          rotate_left
          · go_simp
            rfl
          clear b0 b1
          refine hK.out _ _ ?_; clear hK K
          refine pz 11 9 ?_
          refine dz ?_
          clear hHeld
          have M9 := Aside0.mk ((((MX4.out.set (A := []) 0 (.int .i64 k) rfl).set (A := []) 1 (.int .u64 m) rfl).set (A := []) 2 (.string s) rfl).set (A := []) 3 (.int .i64 r) rfl)
          try go_wp2_with fail
          go_meet
          exact ⟨g8, _, rfl, rfl, ⟨rfl⟩, M9⟩
      · skip
        refine box_step ?hg (N := 8) ?hd (cs := #[.int .i64 0, .int .u64 0, .string (⟨#[]⟩ : ByteArray), .int .i64 0]) (t := 37) ?hr ?_; (case hd => rfl); (case hg => rfl); (case hr => first | (go_simp; done) | (go_simp; rfl))
        intro g8 hg x2 hbx hbb
        have MX2 := Aside0.mk (boxed MX1.out hg hbx hbb); clear hg hbx hbb MX1
        refine hK.out _ _ ⟨MX2.out.box (.tail _ (.tail _ (.head _))), MX2.out.box (.tail _ (.head _))⟩ (fun hHeld => ?_); clear hK K; refine kz (some 8) ?_
        refine ez 4 (some 27) (fun K hK => ?_)
        refine gz Try.func27 #[.agg #[.int .i64 k2, .int .u64 n2, .string t2, .int .i64 r2]] ?_
        refine (laws_toValue.calls k2 n2 t2 r2 k2 n2 t2 r2 _ rfl).mono ?_; rintro e x3 ⟨rfl, hb⟩
        have MX3 := Aside0.mk (MX2.out.step hb); clear hb MX2
        refine ⟨_, rfl, ?_⟩
        refine hK.out _ _ ⟨MX3.out.box (.tail _ (.tail _ (.head _))), MX3.out.box (.tail _ (.head _))⟩ (fun hHeld => ?_); clear hK K; refine kz (some 27) ?_
        refine ez 5 (some 28) (fun K hK => ?_)
        refine gz Try.func26 #[.int .i64 op, .agg #[.int .i64 k1, .int .u64 n1, .string t1, .int .i64 r1], .agg #[.int .i64 k2, .int .u64 n2, .string t2, .int .i64 r2]] ?_
        have C := fun W => doBinS op k1 n1 r1 k2 n2 r2 t1 t2 W HA.out.1.1 HA.out.1.2 HA.out.2.1 HA.out.2.2
        rw [HCV.out] at C
        dsimp only at C
        refine (C _).mono ?_; clear C; rintro e x4 ⟨rfl, hb⟩
        have MX4 := Aside0.mk (MX3.out.step hb); clear hb MX3
        refine ⟨_, rfl, ?_⟩
        refine hK.out _ _ ⟨MX4.out.box (.tail _ (.tail _ (.head _))), MX4.out.box (.tail _ (.head _))⟩ (fun hHeld => ?_); clear hK K; refine kz (some 28) ?_
        refine pz 6 22 ?_; refine pz 7 29 ?_; refine pz 8 30 ?_
        refine lz 10 none (fun K hK => ?_)
        have b0 := MX4.out.box (.head _); have b1 := MX4.out.free (.head _)
        refine skip_ (w1 := ?_) (by rfl) rfl ?_ ?_
        rotate_left
        · go_simp
          rfl
        clear b0 b1
        refine hK.out _ _ ?_; clear hK K
        refine pz 11 9 ?_
        refine dz ?_
        clear hHeld
        have M9 := Aside0.mk ((((MX4.out.set (A := []) 0 (.int .i64 k) rfl).set (A := []) 1 (.int .u64 m) rfl).set (A := []) 2 (.string s) rfl).set (A := []) 3 (.int .i64 r) rfl)
        try go_wp2_with fail
        go_meet
        exact ⟨g8, _, rfl, rfl, ⟨rfl⟩, M9⟩
    · skip
      refine box_step ?hg (N := 8) ?hd (cs := #[.int .i64 0, .int .u64 0, .string (⟨#[]⟩ : ByteArray), .int .i64 0]) (t := 37) ?hr ?_; (case hd => rfl); (case hg => rfl); (case hr => first | (go_simp; done) | (go_simp; rfl))
      intro g8 hg x1 hbx hbb
      have MX1 := Aside0.mk (boxed MD.out hg hbx hbb); clear hg hbx hbb MD
      refine hK.out _ _ ⟨MX1.out.box (.tail _ (.tail _ (.head _))), MX1.out.box (.tail _ (.head _))⟩ (fun hHeld => ?_); clear hK K; refine kz (some 8) ?_
      refine ez 2 (some 25) (fun K hK => ?_)
      refine gz Try.func27 #[.agg #[.int .i64 k1, .int .u64 n1, .string t1, .int .i64 r1]] ?_
      refine (laws_toValue.calls k1 n1 t1 r1 k1 n1 t1 r1 _ rfl).mono ?_; rintro e x2 ⟨rfl, hb⟩
      have MX2 := Aside0.mk (MX1.out.step hb); clear hb MX1
      refine ⟨_, rfl, ?_⟩
      refine hK.out _ _ ⟨MX2.out.box (.tail _ (.tail _ (.head _))), MX2.out.box (.tail _ (.head _))⟩ (fun hHeld => ?_); clear hK K; refine kz (some 25) ?_
      refine ez 4 (some 27) (fun K hK => ?_)
      refine gz Try.func27 #[.agg #[.int .i64 k2, .int .u64 n2, .string t2, .int .i64 r2]] ?_
      refine (laws_toValue.calls k2 n2 t2 r2 k2 n2 t2 r2 _ rfl).mono ?_; rintro e x3 ⟨rfl, hb⟩
      have MX3 := Aside0.mk (MX2.out.step hb); clear hb MX2
      refine ⟨_, rfl, ?_⟩
      refine hK.out _ _ ⟨MX3.out.box (.tail _ (.tail _ (.head _))), MX3.out.box (.tail _ (.head _))⟩ (fun hHeld => ?_); clear hK K; refine kz (some 27) ?_
      refine ez 5 (some 28) (fun K hK => ?_)
      refine gz Try.func26 #[.int .i64 op, .agg #[.int .i64 k1, .int .u64 n1, .string t1, .int .i64 r1], .agg #[.int .i64 k2, .int .u64 n2, .string t2, .int .i64 r2]] ?_
      have C := fun W => doBinS op k1 n1 r1 k2 n2 r2 t1 t2 W HA.out.1.1 HA.out.1.2 HA.out.2.1 HA.out.2.2
      rw [HCV.out] at C
      dsimp only at C
      refine (C _).mono ?_; clear C; rintro e x4 ⟨rfl, hb⟩
      have MX4 := Aside0.mk (MX3.out.step hb); clear hb MX3
      refine ⟨_, rfl, ?_⟩
      refine hK.out _ _ ⟨MX4.out.box (.tail _ (.tail _ (.head _))), MX4.out.box (.tail _ (.head _))⟩ (fun hHeld => ?_); clear hK K; refine kz (some 28) ?_
      refine pz 6 22 ?_; refine pz 7 29 ?_; refine pz 8 30 ?_
      refine lz 10 none (fun K hK => ?_)
      have b0 := MX4.out.box (.head _); have b1 := MX4.out.free (.head _)
      refine skip_ (w1 := ?_) (by rfl) rfl ?_ ?_
      rotate_left
      · go_simp
        rfl
      clear b0 b1
      refine hK.out _ _ ?_; clear hK K
      refine pz 11 9 ?_
      refine dz ?_
      clear hHeld
      have M9 := Aside0.mk ((((MX4.out.set (A := []) 0 (.int .i64 k) rfl).set (A := []) 1 (.int .u64 m) rfl).set (A := []) 2 (.string s) rfl).set (A := []) 3 (.int .i64 r) rfl)
      try go_wp2_with fail
      go_meet
      exact ⟨g8, _, rfl, rfl, ⟨rfl⟩, M9⟩
  case rest =>
  obtain ⟨ga, W, rfl, rfl, HW, M3⟩ := hcut
  have hw3 := HW.out; subst hw3; clear HW M2
  try go_upto_region 9 with fail
  go_cut [10, 11] (fun u v wx => ∃ (g : Nat) (W : World), u = .pointer (some ⟨g, 0, none⟩) ∧ v = .string z ∧ Aside0 (W = wx) ∧ Aside0 (Mem w W ([Hold.box g #[.int .i64 k, .int .u64 m, .string s, .int .i64 r] 37, Hold.box ga #[.int .i64 k, .int .u64 m, .string s, .int .i64 r] 37, Hold.box (w.heap.size + 1) #[.int .i64 k2, .int .u64 n2, .string t2, .int .i64 r2] 43, Hold.box w.heap.size #[.int .i64 k1, .int .u64 n1, .string t1, .int .i64 r1] 43])))
  case first =>
    refine sz 12 (fun W => (∀ o, W.cell? ⟨w.heap.size, o, none⟩ = (#[.int .i64 k1, .int .u64 n1, .string t1, .int .i64 r1] : Array Value)[o]?) ∧ (∀ o, W.cell? ⟨w.heap.size + 1, o, none⟩ = (#[.int .i64 k2, .int .u64 n2, .string t2, .int .i64 r2] : Array Value)[o]?)) [10] dobL.tab9 dobL.bits9 ⟨M3.out.drew.box (.tail _ (.tail _ (.head _))), M3.out.drew.box (.tail _ (.head _))⟩ (fun HT_ HW_ hHeld => ?_)
    have MD := Aside0.mk M3.out.drew; clear M3
    generalize World.drew _ = wd at MD hHeld ⊢
    refine pz 0 32 ?_; refine tz 1 33 ?_; refine tz 3 35 ?_
    refine twz 2 9 (some 34) (some 10) (fun K hK => ?_) (fun K hK => ?_)
    · skip
      refine gz Try.func27 #[.agg #[.int .i64 k1, .int .u64 n1, .string t1, .int .i64 r1]] ?_
      refine (laws_toValue.calls k1 n1 t1 r1 k1 n1 t1 r1 _ rfl).mono ?_; rintro e x1 ⟨rfl, hb⟩
      have MX1 := Aside0.mk (MD.out.step hb); clear hb MD
      refine ⟨_, rfl, ?_⟩
      refine hK.out _ _ ⟨MX1.out.box (.tail _ (.tail _ (.head _))), MX1.out.box (.tail _ (.head _))⟩ (fun hHeld => ?_); clear hK K; refine kz (some 34) ?_
      refine twz 4 9 (some 36) (some 10) (fun K hK => ?_) (fun K hK => ?_)
      · skip
        refine gz Try.func27 #[.agg #[.int .i64 k2, .int .u64 n2, .string t2, .int .i64 r2]] ?_
        refine (laws_toValue.calls k2 n2 t2 r2 k2 n2 t2 r2 _ rfl).mono ?_; rintro e x2 ⟨rfl, hb⟩
        have MX2 := Aside0.mk (MX1.out.step hb); clear hb MX1
        refine ⟨_, rfl, ?_⟩
        refine hK.out _ _ ⟨MX2.out.box (.tail _ (.tail _ (.head _))), MX2.out.box (.tail _ (.head _))⟩ (fun hHeld => ?_); clear hK K; refine kz (some 36) ?_
        refine twz 5 9 (some 37) (some 10) (fun K hK => ?_) (fun K hK => ?_)
        · skip
          refine gz Try.func23 #[.int .i64 op, .agg #[.int .i64 k1, .int .u64 n1, .string t1, .int .i64 r1], .agg #[.int .i64 k2, .int .u64 n2, .string t2, .int .i64 r2]] ?_
          have C := fun W => doBinI op k1 n1 r1 k2 n2 r2 t1 t2 W HA.out.1.1 HA.out.1.2 HA.out.2.1 HA.out.2.2
          rw [HCV.out] at C
          dsimp only at C
          refine (C _).mono ?_; clear C; rintro e x3 ⟨rfl, hb⟩
          have MX3 := Aside0.mk (MX2.out.step hb); clear hb MX2
          refine ⟨_, rfl, ?_⟩
          refine hK.out _ _ ⟨MX3.out.box (.tail _ (.tail _ (.head _))), MX3.out.box (.tail _ (.head _))⟩ (fun hHeld => ?_); clear hK K; refine kz (some 37) ?_
          refine pz 6 31 ?_; refine pz 7 38 ?_; refine pz 8 39 ?_
          refine ez 9 (some 10) (fun K hK => ?_)
          refine box_step ?hg (N := 10) ?hd (cs := #[.int .i64 0, .int .u64 0, .string (⟨#[]⟩ : ByteArray), .int .i64 0]) (t := 37) ?hr ?_; (case hd => rfl); (case hg => rfl); (case hr => first | (go_simp; done) | (go_simp; rfl))
          intro g10 hg x4 hbx hbb
          have MX4 := Aside0.mk (boxed MX3.out hg hbx hbb); clear hg hbx hbb MX3
          refine hK.out _ _ ⟨MX4.out.box (.tail _ (.tail _ (.tail _ (.head _)))), MX4.out.box (.tail _ (.tail _ (.head _)))⟩ (fun hHeld => ?_); clear hK K; refine kz (some 10) ?_
          refine lz 10 none (fun K hK => ?_)
          have b0 := MX4.out.box (.head _); have b1 := MX4.out.free (.head _)
          refine skip_ (w1 := ?_) (by rfl) rfl ?_ ?_
          rotate_left
          · go_simp
            rfl
          clear b0 b1
          refine hK.out _ _ ?_; clear hK K
          refine pz 11 11 ?_
          refine dz ?_
          clear hHeld
          have M9 := Aside0.mk ((((MX4.out.set (A := []) 0 (.int .i64 k) rfl).set (A := []) 1 (.int .u64 m) rfl).set (A := []) 2 (.string s) rfl).set (A := []) 3 (.int .i64 r) rfl)
          try go_wp2_with fail
          go_meet
          exact ⟨g10, _, rfl, rfl, ⟨rfl⟩, M9⟩
        · skip
          refine box_step ?hg (N := 10) ?hd (cs := #[.int .i64 0, .int .u64 0, .string (⟨#[]⟩ : ByteArray), .int .i64 0]) (t := 37) ?hr ?_; (case hd => rfl); (case hg => rfl); (case hr => first | (go_simp; done) | (go_simp; rfl))
          intro g10 hg x3 hbx hbb
          have MX3 := Aside0.mk (boxed MX2.out hg hbx hbb); clear hg hbx hbb MX2
          refine hK.out _ _ ⟨MX3.out.box (.tail _ (.tail _ (.tail _ (.head _)))), MX3.out.box (.tail _ (.tail _ (.head _)))⟩ (fun hHeld => ?_); clear hK K; refine kz (some 10) ?_
          refine ez 5 (some 37) (fun K hK => ?_)
          refine gz Try.func23 #[.int .i64 op, .agg #[.int .i64 k1, .int .u64 n1, .string t1, .int .i64 r1], .agg #[.int .i64 k2, .int .u64 n2, .string t2, .int .i64 r2]] ?_
          have C := fun W => doBinI op k1 n1 r1 k2 n2 r2 t1 t2 W HA.out.1.1 HA.out.1.2 HA.out.2.1 HA.out.2.2
          rw [HCV.out] at C
          dsimp only at C
          refine (C _).mono ?_; clear C; rintro e x4 ⟨rfl, hb⟩
          have MX4 := Aside0.mk (MX3.out.step hb); clear hb MX3
          refine ⟨_, rfl, ?_⟩
          refine hK.out _ _ ⟨MX4.out.box (.tail _ (.tail _ (.tail _ (.head _)))), MX4.out.box (.tail _ (.tail _ (.head _)))⟩ (fun hHeld => ?_); clear hK K; refine kz (some 37) ?_
          refine pz 6 31 ?_; refine pz 7 38 ?_; refine pz 8 39 ?_
          refine lz 10 none (fun K hK => ?_)
          have b0 := MX4.out.box (.head _); have b1 := MX4.out.free (.head _)
          refine skip_ (w1 := ?_) (by rfl) rfl ?_ ?_
          rotate_left
          · go_simp
            rfl
          clear b0 b1
          refine hK.out _ _ ?_; clear hK K
          refine pz 11 11 ?_
          refine dz ?_
          clear hHeld
          have M9 := Aside0.mk ((((MX4.out.set (A := []) 0 (.int .i64 k) rfl).set (A := []) 1 (.int .u64 m) rfl).set (A := []) 2 (.string s) rfl).set (A := []) 3 (.int .i64 r) rfl)
          try go_wp2_with fail
          go_meet
          exact ⟨g10, _, rfl, rfl, ⟨rfl⟩, M9⟩
      · skip
        refine box_step ?hg (N := 10) ?hd (cs := #[.int .i64 0, .int .u64 0, .string (⟨#[]⟩ : ByteArray), .int .i64 0]) (t := 37) ?hr ?_; (case hd => rfl); (case hg => rfl); (case hr => first | (go_simp; done) | (go_simp; rfl))
        intro g10 hg x2 hbx hbb
        have MX2 := Aside0.mk (boxed MX1.out hg hbx hbb); clear hg hbx hbb MX1
        refine hK.out _ _ ⟨MX2.out.box (.tail _ (.tail _ (.tail _ (.head _)))), MX2.out.box (.tail _ (.tail _ (.head _)))⟩ (fun hHeld => ?_); clear hK K; refine kz (some 10) ?_
        refine ez 4 (some 36) (fun K hK => ?_)
        refine gz Try.func27 #[.agg #[.int .i64 k2, .int .u64 n2, .string t2, .int .i64 r2]] ?_
        refine (laws_toValue.calls k2 n2 t2 r2 k2 n2 t2 r2 _ rfl).mono ?_; rintro e x3 ⟨rfl, hb⟩
        have MX3 := Aside0.mk (MX2.out.step hb); clear hb MX2
        refine ⟨_, rfl, ?_⟩
        refine hK.out _ _ ⟨MX3.out.box (.tail _ (.tail _ (.tail _ (.head _)))), MX3.out.box (.tail _ (.tail _ (.head _)))⟩ (fun hHeld => ?_); clear hK K; refine kz (some 36) ?_
        refine ez 5 (some 37) (fun K hK => ?_)
        refine gz Try.func23 #[.int .i64 op, .agg #[.int .i64 k1, .int .u64 n1, .string t1, .int .i64 r1], .agg #[.int .i64 k2, .int .u64 n2, .string t2, .int .i64 r2]] ?_
        have C := fun W => doBinI op k1 n1 r1 k2 n2 r2 t1 t2 W HA.out.1.1 HA.out.1.2 HA.out.2.1 HA.out.2.2
        rw [HCV.out] at C
        dsimp only at C
        refine (C _).mono ?_; clear C; rintro e x4 ⟨rfl, hb⟩
        have MX4 := Aside0.mk (MX3.out.step hb); clear hb MX3
        refine ⟨_, rfl, ?_⟩
        refine hK.out _ _ ⟨MX4.out.box (.tail _ (.tail _ (.tail _ (.head _)))), MX4.out.box (.tail _ (.tail _ (.head _)))⟩ (fun hHeld => ?_); clear hK K; refine kz (some 37) ?_
        refine pz 6 31 ?_; refine pz 7 38 ?_; refine pz 8 39 ?_
        refine lz 10 none (fun K hK => ?_)
        have b0 := MX4.out.box (.head _); have b1 := MX4.out.free (.head _)
        refine skip_ (w1 := ?_) (by rfl) rfl ?_ ?_
        rotate_left
        · go_simp
          rfl
        clear b0 b1
        refine hK.out _ _ ?_; clear hK K
        refine pz 11 11 ?_
        refine dz ?_
        clear hHeld
        have M9 := Aside0.mk ((((MX4.out.set (A := []) 0 (.int .i64 k) rfl).set (A := []) 1 (.int .u64 m) rfl).set (A := []) 2 (.string s) rfl).set (A := []) 3 (.int .i64 r) rfl)
        try go_wp2_with fail
        go_meet
        exact ⟨g10, _, rfl, rfl, ⟨rfl⟩, M9⟩
    · skip
      refine box_step ?hg (N := 10) ?hd (cs := #[.int .i64 0, .int .u64 0, .string (⟨#[]⟩ : ByteArray), .int .i64 0]) (t := 37) ?hr ?_; (case hd => rfl); (case hg => rfl); (case hr => first | (go_simp; done) | (go_simp; rfl))
      intro g10 hg x1 hbx hbb
      have MX1 := Aside0.mk (boxed MD.out hg hbx hbb); clear hg hbx hbb MD
      refine hK.out _ _ ⟨MX1.out.box (.tail _ (.tail _ (.tail _ (.head _)))), MX1.out.box (.tail _ (.tail _ (.head _)))⟩ (fun hHeld => ?_); clear hK K; refine kz (some 10) ?_
      refine ez 2 (some 34) (fun K hK => ?_)
      refine gz Try.func27 #[.agg #[.int .i64 k1, .int .u64 n1, .string t1, .int .i64 r1]] ?_
      refine (laws_toValue.calls k1 n1 t1 r1 k1 n1 t1 r1 _ rfl).mono ?_; rintro e x2 ⟨rfl, hb⟩
      have MX2 := Aside0.mk (MX1.out.step hb); clear hb MX1
      refine ⟨_, rfl, ?_⟩
      refine hK.out _ _ ⟨MX2.out.box (.tail _ (.tail _ (.tail _ (.head _)))), MX2.out.box (.tail _ (.tail _ (.head _)))⟩ (fun hHeld => ?_); clear hK K; refine kz (some 34) ?_
      refine ez 4 (some 36) (fun K hK => ?_)
      refine gz Try.func27 #[.agg #[.int .i64 k2, .int .u64 n2, .string t2, .int .i64 r2]] ?_
      refine (laws_toValue.calls k2 n2 t2 r2 k2 n2 t2 r2 _ rfl).mono ?_; rintro e x3 ⟨rfl, hb⟩
      have MX3 := Aside0.mk (MX2.out.step hb); clear hb MX2
      refine ⟨_, rfl, ?_⟩
      refine hK.out _ _ ⟨MX3.out.box (.tail _ (.tail _ (.tail _ (.head _)))), MX3.out.box (.tail _ (.tail _ (.head _)))⟩ (fun hHeld => ?_); clear hK K; refine kz (some 36) ?_
      refine ez 5 (some 37) (fun K hK => ?_)
      refine gz Try.func23 #[.int .i64 op, .agg #[.int .i64 k1, .int .u64 n1, .string t1, .int .i64 r1], .agg #[.int .i64 k2, .int .u64 n2, .string t2, .int .i64 r2]] ?_
      have C := fun W => doBinI op k1 n1 r1 k2 n2 r2 t1 t2 W HA.out.1.1 HA.out.1.2 HA.out.2.1 HA.out.2.2
      rw [HCV.out] at C
      dsimp only at C
      refine (C _).mono ?_; clear C; rintro e x4 ⟨rfl, hb⟩
      have MX4 := Aside0.mk (MX3.out.step hb); clear hb MX3
      refine ⟨_, rfl, ?_⟩
      refine hK.out _ _ ⟨MX4.out.box (.tail _ (.tail _ (.tail _ (.head _)))), MX4.out.box (.tail _ (.tail _ (.head _)))⟩ (fun hHeld => ?_); clear hK K; refine kz (some 37) ?_
      refine pz 6 31 ?_; refine pz 7 38 ?_; refine pz 8 39 ?_
      refine lz 10 none (fun K hK => ?_)
      have b0 := MX4.out.box (.head _); have b1 := MX4.out.free (.head _)
      refine skip_ (w1 := ?_) (by rfl) rfl ?_ ?_
      rotate_left
      · go_simp
        rfl
      clear b0 b1
      refine hK.out _ _ ?_; clear hK K
      refine pz 11 11 ?_
      refine dz ?_
      clear hHeld
      have M9 := Aside0.mk ((((MX4.out.set (A := []) 0 (.int .i64 k) rfl).set (A := []) 1 (.int .u64 m) rfl).set (A := []) 2 (.string s) rfl).set (A := []) 3 (.int .i64 r) rfl)
      try go_wp2_with fail
      go_meet
      exact ⟨g10, _, rfl, rfl, ⟨rfl⟩, M9⟩
  case rest =>
  obtain ⟨gb, W4, rfl, rfl, HW, M4⟩ := hcut
  have hw4 := HW.out; subst hw4; clear HW M3
  have za := M4.out.box (.tail _ (.head _)); have zb := M4.out.box (.head _)
  have hzz : (z.toList != z.toList) = false := by simp
  go_wp2_with fail
  refine (laws_eqValue.calls k m s r k m s r true _ (eq_self k m s r)).mono ?_; rintro e x9 ⟨rfl, hb⟩
  have M5 := Aside0.mk (M4.out.step hb); clear hb M4 za zb
  go_wp2
  go_ret
  exact ⟨rfl, M5.out.below⟩
theorem sz_le {k n : Int} {t : ByteArray} {r x s : Int} (h : laws_szValue.f k n t r x = some s) (hs : 0 ≤ s) (hx : 0 ≤ x ∧ x ≤ 1048576) (ht : t.size ≤ maxLen) : t.size ≤ 1048576 ∧ s ≤ x := by
  unfold laws_szValue.f at h
  have hm : (t.size : Int) ≤ 9223372036854775807 := by have : maxLen = 9223372036854775807 := rfl; omega
  rw [wrap64_id (by omega) (by omega)] at h
  split at h <;> (have := Option.some.inj h; omega)
theorem law (op k1 n1 r1 k2 n2 r2 : Int) (t1 t2 : ByteArray) (w : World) (hn1 : 0 ≤ n1 ∧ n1 < 18446744073709551616) (hn2 : 0 ≤ n2 ∧ n2 < 18446744073709551616) (ht1 : t1.size ≤ maxLen) (ht2 : t2.size ≤ maxLen) :
    Calls Try.prog 6 #[.int .i64 op, .agg #[.int .i64 k1, .int .u64 n1, .string t1, .int .i64 r1], .agg #[.int .i64 k2, .int .u64 n2, .string t2, .int .i64 r2]] w fun e w' => e = .returned (.bool true) ∧ Below w.heap.size w w' := by
  obtain ⟨s1, h1⟩ : ∃ s, laws_szValue.f k1 n1 t1 r1 1048576 = some s := by unfold laws_szValue.f; split <;> exact ⟨_, rfl⟩
  by_cases m1 : s1 < 0
  · exact w1 _ _ _ _ _ _ _ _ _ w s1 h1 m1
  · obtain ⟨s2, h2⟩ : ∃ s, laws_szValue.f k2 n2 t2 r2 s1 = some s := by unfold laws_szValue.f; split <;> exact ⟨_, rfl⟩
    have a1 := sz_le h1 (by omega) (by omega) ht1
    by_cases m2 : s2 < 0
    · exact w2 _ _ _ _ _ _ _ _ _ w s1 h1 (by omega) s2 h2 m2
    · have a2 := sz_le h2 (by omega) (by omega) ht2
      exact w3 _ _ _ _ _ _ _ _ _ w s1 h1 (by omega) s2 h2 (by omega) hn1 hn2 a1.1 a2.1
theorem rlaw (op k1 n1 : Int) (t1 : ByteArray) (r1 k2 n2 : Int) (t2 : ByteArray) (r2 : Int) (w : World) (g0 : (Lit.int .i64 op).wf = true)
    (g1 : (Lit.int .i64 k1).wf = true ∧ (Lit.int .u64 n1).wf = true ∧ t1.size ≤ maxLen ∧ (Lit.int .i64 r1).wf = true) (g2 : (Lit.int .i64 k2).wf = true ∧ (Lit.int .u64 n2).wf = true ∧ t2.size ≤ maxLen ∧ (Lit.int .i64 r2).wf = true) :
    Calls Try.prog 6 #[.int .i64 op, .agg #[.int .i64 k1, .int .u64 n1, .string t1, .int .i64 r1], .agg #[.int .i64 k2, .int .u64 n2, .string t2, .int .i64 r2]] w fun e w' => e = .returned (.bool true) ∧ Below w.heap.size w w' :=
  law op k1 n1 r1 k2 n2 r2 t1 t2 w (wf_u64 g1.2.1) (wf_u64 g2.2.1) g1.2.2.1 g2.2.2.1
end Go.Proofs.Ytokhgodcamhibaa.Dob
end
section
namespace Go.Proofs.Ytokhgodcamhibaa.Open
open Go.Proofs.YtokhgodcamhibaaW.PrintWords Go.ChangeShapes Go.WideShapes
section
variable {H : Type} {enc : TypeId × Value → H} {P : Program} {w : World} {base : Nat} {spare : Nat → Bool} {held : Bool}
/-- What reads as a datum at type t reads by the kind d as a value that is G. -/
def Opens {α : Type} (enc : TypeId × Value → H) (P : Program) (w : World) (base : Nat) (spare : Nat → Bool) (held : Bool) (t : TypeId) (d : Kd α) (G : α → Prop) : Prop :=
  ∀ (fuel : Nat) (cs : List Value) (x : DataW H × List MemPlace), DataW.trod enc P w base spare held fuel t cs = some x → ∃ a, d.K w a cs ∧ G a
theorem opens_int {t : TypeId} {k : IntKind} (ht : P.underlying t = some (.int k)) : Opens enc P w base spare held t (Kd.int k) (fun n => (Lit.int k n).wf = true) := by
  intro fuel cs x h
  obtain ⟨n, rfl, _, hw⟩ := DataW.trod_int ht h
  exact ⟨n, rfl, hw⟩
theorem opens_string {t : TypeId} (ht : P.underlying t = some .string) : Opens enc P w base spare held t Kd.string (fun s => s.size ≤ maxLen) := by
  intro fuel cs x h
  obtain ⟨s, rfl, _, hw⟩ := DataW.trod_string ht h
  exact ⟨s, rfl, hw⟩
/-- The fields from a place on, read in line by the kind d. -/
def Fields {α : Type} (enc : TypeId × Value → H) (P : Program) (w : World) (base : Nat) (spare : Nat → Bool) (held : Bool) (fs : List Field) (off : Nat) (d : Kd α) (G : α → Prop) : Prop :=
  ∀ (n : Nat) (cs : List Value), cs.length = off + d.sz → (∀ f ∈ fs, ∃ x, DataW.trod enc P w base spare held n f.type ((cs.drop f.offset).take (P.cellsOf f.type)) = some x) → ∃ a, d.K w a (cs.drop off) ∧ G a
theorem fields_one {α : Type} {f : Field} {off : Nat} {d : Kd α} {G : α → Prop} (hf : f.offset = off) (hc : P.cellsOf f.type = d.sz) (ho : Opens enc P w base spare held f.type d G) : Fields enc P w base spare held [f] off d G := by
  intro n cs hl h
  obtain ⟨x, hx⟩ := h f (by simp)
  obtain ⟨a, hk, hg⟩ := ho _ _ _ hx
  refine ⟨a, ?_, hg⟩
  rw [hf, hc, List.take_of_length_le (by simp [hl])] at hk
  exact hk
theorem fields_cons {α β : Type} {f : Field} {fs : List Field} {off : Nat} {d : Kd α} {d' : Kd β} {G : α → Prop} {G' : β → Prop} (hf : f.offset = off) (hc : P.cellsOf f.type = d.sz) (ho : Opens enc P w base spare held f.type d G)
    (hr : Fields enc P w base spare held fs (off + d.sz) d' G') : Fields enc P w base spare held (f :: fs) off (Kd.pair d d') (fun x => G x.1 ∧ G' x.2) := by
  intro n cs hl h
  obtain ⟨x, hx⟩ := h f (by simp)
  obtain ⟨a, hk, hg⟩ := ho _ _ _ hx
  rw [hf, hc] at hk
  have hl' : cs.length = off + d.sz + d'.sz := by rw [hl]; show off + (d.sz + d'.sz) = _; omega
  obtain ⟨b, hk', hg'⟩ := hr n cs hl' (fun g hg => h g (by simp [hg]))
  refine ⟨(a, b), ⟨_, _, ?_, hk, hk'⟩, hg, hg'⟩
  rw [← List.drop_drop, List.take_append_drop]
theorem opens_struct {α : Type} {t : TypeId} {fs : Array Field} {d : Kd α} {G : α → Prop} (ht : P.underlying t = some (.struct fs)) (hc : P.cellsOf t = d.sz) (hf : Fields enc P w base spare held fs.toList 0 d G) : Opens enc P w base spare held t d G := by
  intro fuel cs x h
  obtain ⟨xs, n, _, _, hl, hlen, hx⟩ := DataW.trod_struct ht h
  obtain ⟨a, hk, hg⟩ := hf n cs (by omega) (fun f hm => by
    obtain ⟨i, hi⟩ := List.getElem?_of_mem hm
    have hi' : i < fs.size := by have := (List.getElem?_eq_some_iff.1 hi).1; simpa using this
    have := hx i f (by rw [← hi, Array.getElem?_toList])
    rw [List.getElem?_eq_getElem (by omega)] at this
    exact ⟨_, this⟩)
  exact ⟨a, by simpa using hk, hg⟩
/-- An argument: its cells, by the kind. -/
theorem opens_arg {α : Type} {t : TypeId} {d : Kd α} {G : α → Prop} {v : Value} {dd : DataW H} {p : List MemPlace} (ho : Opens enc P w base spare held t d G) (h : DataW.Trod enc P w base spare held t v dd p) : ∃ a, d.K w a v.cells.toList ∧ G a := by
  obtain ⟨fuel, hf⟩ := h
  exact ho _ _ _ hf
end
end Go.Proofs.Ytokhgodcamhibaa.Open
end
