/- Part 15 of the proof: general lemmas, contracts of functions, walks. No condition of its own. -/
import Derived.Test.YtokhgodcamhibaaBd14
section
namespace Go.Proofs.Ytokhgodcamhibaa.Dob
open Go.RowKit Go.Proofs.YtokhgodcamhibaaW.PrintWords Go.Proofs.YtokhgodcamhibaaW.PrintLast Go.Proofs.YtokhgodcamhibaaW.PrintMore Go.Proofs.Ytokhgodcamhibaa.Law Go.Proofs.Ytokhgodcamhibaa.Fl Go.Proofs.Ytokhgodcamhibaa.FlI Go.Proofs.Ytokhgodcamhibaa.Num Go.Proofs.Ytokhgodcamhibaa.QFnExactDoBinary Go.Proofs.Ytokhgodcamhibaa Go.Proofs.Ytokhgodcamhibaa.Steps Ieee
set_option linter.unusedVariables false
set_option linter.unusedSimpArgs false
def dob.T9 : Bool × List (List Nat × List Nat) := (true, [([], []), ([], []), ([1], [1]), ([], []), ([3], [3]), ([2, 4], [2, 4]), ([], []), ([6], [6]), ([], []), ([8], [8]), ([7, 9, 5], [7, 9]), ([], []), ([11], [11]), ([], []), ([13], [13]), ([12, 14, 10], [12, 14]), ([0, 5, 10, 15, 15], [0, 5, 10, 15]), ([16, 16, 0, 1, 2, 3, 4, 5, 6, 7, 8, 9, 10, 11, 12, 13, 14, 15, 16], [16]), ([17, 0, 1, 2, 3, 4, 5, 6, 7, 8, 9, 10, 11, 12, 13, 14, 15, 16, 17], [])])
def dob.B9 : List Nat := [0, 0, 2, 0, 8, 30, 0, 64, 0, 256, 1022, 0, 2048, 0, 8192, 32766, 65535, 131071, 262143]
theorem dob.tab9 : rtab .any (opsOf Try.f23 9) = dob.T9 := by kernel_rfl
theorem dob.bits9 : waitsOk dob.T9.2 dob.B9 = true := by kernel_rfl
set_option maxHeartbeats 8000000 in
set_option maxRecDepth 100000 in
theorem i_same_22 (op k1 n1 r1 k2 n2 r2 : Int) (t1 t2 : ByteArray) (w : World) (hn1 : 0 ≤ n1 ∧ n1 < 18446744073709551616) (hn2 : 0 ≤ n2 ∧ n2 < 18446744073709551616) (hs1 : t1.size ≤ 1048576) (hs2 : t2.size ≤ 1048576) (a0 : (k1 == 2) = true) (a1 : (k2 == 2) = true) (a2 : (k1 == 3) = false) (a3 : (k2 == 3) = false) (b0 : (op == 10) = true) (bw : impl_within.f op 6 9 = some false)
    (hres : binV op k1 n1 t1 r1 k2 n2 t2 r2 = (1, bn (same k1 n1 t1 r1 k2 n2 t2 r2), (⟨#[]⟩ : ByteArray), 0, (⟨#[]⟩ : ByteArray))) :
    Calls Try.prog 23 #[.int .i64 op, .agg #[.int .i64 k1, .int .u64 n1, .string t1, .int .i64 r1], .agg #[.int .i64 k2, .int .u64 n2, .string t2, .int .i64 r2]] w fun e w' => e = .returned (.tuple #[.agg #[.int .i64 (binV op k1 n1 t1 r1 k2 n2 t2 r2).1, .int .u64 (binV op k1 n1 t1 r1 k2 n2 t2 r2).2.1, .string (binV op k1 n1 t1 r1 k2 n2 t2 r2).2.2.1, .int .i64 (binV op k1 n1 t1 r1 k2 n2 t2 r2).2.2.2.1], .string (binV op k1 n1 t1 r1 k2 n2 t2 r2).2.2.2.2]) ∧ Below w.heap.size w w' := by
  have hu := Try.underlying37
  have HR := Aside0.mk hres; clear hres
  have M0 := Aside0.mk ((((Mem.start w).allocAt (g := w.heap.size) rfl #[.int .i64 k1, .int .u64 n1, .string t1, .int .i64 r1] 37).allocAt (g := w.heap.size + 1) (by simp) #[.int .i64 k2, .int .u64 n2, .string t2, .int .i64 r2] 37).allocAt (g := w.heap.size + 1 + 1) (by simp) #[.int .i64 0, .int .u64 0, .string (⟨#[]⟩ : ByteArray), .int .i64 0] 37)
  have za := M0.out.box (.tail _ (.tail _ (.head _))); have zb := M0.out.box (.tail _ (.head _)); have zz := M0.out.box (.head _); have fz := M0.out.free (.head _)
  go_enter Try.func23, Try.ntmps23
  go_wp2_with fail
  repeat (go_quiet (fail); go_wp2_with fail)
  refine (impl_within.calls op 6 9 false _ bw).mono ?_
  rintro e v1 ⟨rfl, hb⟩
  have M1 := Aside0.mk (M0.out.step hb.below); clear hb za zb zz fz M0
  have za := M1.out.box (.tail _ (.tail _ (.head _))); have zb := M1.out.box (.tail _ (.head _)); have zz := M1.out.box (.head _); have fz := M1.out.free (.head _)
  go_wp2_with fail
  repeat (go_quiet (fail); go_wp2_with fail)
  refine (sameI k1 n1 t1 r1 k2 n2 t2 r2 _).mono ?_
  rintro e v2 ⟨rfl, hb⟩
  have M2 := Aside0.mk (M1.out.step hb); clear hb za zb zz fz M1
  have za := M2.out.box (.tail _ (.tail _ (.head _))); have zb := M2.out.box (.tail _ (.head _)); have zz := M2.out.box (.head _); have fz := M2.out.free (.head _)
  go_wp2_with fail
  repeat (go_quiet (fail); go_wp2_with fail)
  refine (boolI _ _).mono ?_
  rintro e v3 ⟨rfl, hb⟩
  have M3 := Aside0.mk (M2.out.step hb); clear hb za zb zz fz M2
  have za := M3.out.box (.tail _ (.tail _ (.head _))); have zb := M3.out.box (.tail _ (.head _)); have zz := M3.out.box (.head _); have fz := M3.out.free (.head _)
  go_wp2
  have M9 := Aside0.mk ((((M3.out.set (A := []) 0 (.int .i64 (1)) rfl).set (A := []) 1 (.int .u64 (bn (same k1 n1 t1 r1 k2 n2 t2 r2))) rfl).set (A := []) 2 (.string ((⟨#[]⟩ : ByteArray))) rfl).set (A := []) 3 (.int .i64 (0)) rfl)
  refine bodyPost_ret (results_ct rfl _ _ (w.heap.size + 1 + 1) 37 #[.int .i64 (1), .int .u64 (bn (same k1 n1 t1 r1 k2 n2 t2 r2)), .string ((⟨#[]⟩ : ByteArray)), .int .i64 (0)] (0, 0) _ rfl (M9.out.blk (.head _)) Try.underlying37 rfl (by kernel_rfl)) rfl ?_
  exact ⟨by rw [HR.out]; rfl, M9.out.below⟩
set_option maxHeartbeats 8000000 in
set_option maxRecDepth 100000 in
theorem i_other_22 (op k1 n1 r1 k2 n2 r2 : Int) (t1 t2 : ByteArray) (w : World) (hn1 : 0 ≤ n1 ∧ n1 < 18446744073709551616) (hn2 : 0 ≤ n2 ∧ n2 < 18446744073709551616) (hs1 : t1.size ≤ 1048576) (hs2 : t2.size ≤ 1048576) (a0 : (k1 == 2) = true) (a1 : (k2 == 2) = true) (a2 : (k1 == 3) = false) (a3 : (k2 == 3) = false) (b0 : (op == 10) = false) (b1 : (op == 11) = true) (bw : impl_within.f op 6 9 = some false)
    (hres : binV op k1 n1 t1 r1 k2 n2 t2 r2 = (1, bn (!same k1 n1 t1 r1 k2 n2 t2 r2), (⟨#[]⟩ : ByteArray), 0, (⟨#[]⟩ : ByteArray))) :
    Calls Try.prog 23 #[.int .i64 op, .agg #[.int .i64 k1, .int .u64 n1, .string t1, .int .i64 r1], .agg #[.int .i64 k2, .int .u64 n2, .string t2, .int .i64 r2]] w fun e w' => e = .returned (.tuple #[.agg #[.int .i64 (binV op k1 n1 t1 r1 k2 n2 t2 r2).1, .int .u64 (binV op k1 n1 t1 r1 k2 n2 t2 r2).2.1, .string (binV op k1 n1 t1 r1 k2 n2 t2 r2).2.2.1, .int .i64 (binV op k1 n1 t1 r1 k2 n2 t2 r2).2.2.2.1], .string (binV op k1 n1 t1 r1 k2 n2 t2 r2).2.2.2.2]) ∧ Below w.heap.size w w' := by
  have hu := Try.underlying37
  have HR := Aside0.mk hres; clear hres
  have M0 := Aside0.mk ((((Mem.start w).allocAt (g := w.heap.size) rfl #[.int .i64 k1, .int .u64 n1, .string t1, .int .i64 r1] 37).allocAt (g := w.heap.size + 1) (by simp) #[.int .i64 k2, .int .u64 n2, .string t2, .int .i64 r2] 37).allocAt (g := w.heap.size + 1 + 1) (by simp) #[.int .i64 0, .int .u64 0, .string (⟨#[]⟩ : ByteArray), .int .i64 0] 37)
  have za := M0.out.box (.tail _ (.tail _ (.head _))); have zb := M0.out.box (.tail _ (.head _)); have zz := M0.out.box (.head _); have fz := M0.out.free (.head _)
  go_enter Try.func23, Try.ntmps23
  go_wp2_with fail
  repeat (go_quiet (fail); go_wp2_with fail)
  refine (impl_within.calls op 6 9 false _ bw).mono ?_
  rintro e v1 ⟨rfl, hb⟩
  have M1 := Aside0.mk (M0.out.step hb.below); clear hb za zb zz fz M0
  have za := M1.out.box (.tail _ (.tail _ (.head _))); have zb := M1.out.box (.tail _ (.head _)); have zz := M1.out.box (.head _); have fz := M1.out.free (.head _)
  go_wp2_with fail
  repeat (go_quiet (fail); go_wp2_with fail)
  refine (sameI k1 n1 t1 r1 k2 n2 t2 r2 _).mono ?_
  rintro e v2 ⟨rfl, hb⟩
  have M2 := Aside0.mk (M1.out.step hb); clear hb za zb zz fz M1
  have za := M2.out.box (.tail _ (.tail _ (.head _))); have zb := M2.out.box (.tail _ (.head _)); have zz := M2.out.box (.head _); have fz := M2.out.free (.head _)
  go_wp2_with fail
  repeat (go_quiet (fail); go_wp2_with fail)
  refine (boolI _ _).mono ?_
  rintro e v3 ⟨rfl, hb⟩
  have M3 := Aside0.mk (M2.out.step hb); clear hb za zb zz fz M2
  have za := M3.out.box (.tail _ (.tail _ (.head _))); have zb := M3.out.box (.tail _ (.head _)); have zz := M3.out.box (.head _); have fz := M3.out.free (.head _)
  go_wp2
  have M9 := Aside0.mk ((((M3.out.set (A := []) 0 (.int .i64 (1)) rfl).set (A := []) 1 (.int .u64 (bn (!same k1 n1 t1 r1 k2 n2 t2 r2))) rfl).set (A := []) 2 (.string ((⟨#[]⟩ : ByteArray))) rfl).set (A := []) 3 (.int .i64 (0)) rfl)
  refine bodyPost_ret (results_ct rfl _ _ (w.heap.size + 1 + 1) 37 #[.int .i64 (1), .int .u64 (bn (!same k1 n1 t1 r1 k2 n2 t2 r2)), .string ((⟨#[]⟩ : ByteArray)), .int .i64 (0)] (0, 0) _ rfl (M9.out.blk (.head _)) Try.underlying37 rfl (by kernel_rfl)) rfl ?_
  exact ⟨by rw [HR.out]; rfl, M9.out.below⟩
set_option maxHeartbeats 8000000 in
set_option maxRecDepth 100000 in
theorem i_same_2o (op k1 n1 r1 k2 n2 r2 : Int) (t1 t2 : ByteArray) (w : World) (hn1 : 0 ≤ n1 ∧ n1 < 18446744073709551616) (hn2 : 0 ≤ n2 ∧ n2 < 18446744073709551616) (hs1 : t1.size ≤ 1048576) (hs2 : t2.size ≤ 1048576) (a0 : (k1 == 2) = true) (a1 : (k2 == 2) = false) (a2 : (k1 == 3) = false) (b0 : (op == 10) = true) (bw : impl_within.f op 6 9 = some false)
    (hres : binV op k1 n1 t1 r1 k2 n2 t2 r2 = (1, bn (same k1 n1 t1 r1 k2 n2 t2 r2), (⟨#[]⟩ : ByteArray), 0, (⟨#[]⟩ : ByteArray))) :
    Calls Try.prog 23 #[.int .i64 op, .agg #[.int .i64 k1, .int .u64 n1, .string t1, .int .i64 r1], .agg #[.int .i64 k2, .int .u64 n2, .string t2, .int .i64 r2]] w fun e w' => e = .returned (.tuple #[.agg #[.int .i64 (binV op k1 n1 t1 r1 k2 n2 t2 r2).1, .int .u64 (binV op k1 n1 t1 r1 k2 n2 t2 r2).2.1, .string (binV op k1 n1 t1 r1 k2 n2 t2 r2).2.2.1, .int .i64 (binV op k1 n1 t1 r1 k2 n2 t2 r2).2.2.2.1], .string (binV op k1 n1 t1 r1 k2 n2 t2 r2).2.2.2.2]) ∧ Below w.heap.size w w' := by
  have hu := Try.underlying37
  have HR := Aside0.mk hres; clear hres
  have M0 := Aside0.mk ((((Mem.start w).allocAt (g := w.heap.size) rfl #[.int .i64 k1, .int .u64 n1, .string t1, .int .i64 r1] 37).allocAt (g := w.heap.size + 1) (by simp) #[.int .i64 k2, .int .u64 n2, .string t2, .int .i64 r2] 37).allocAt (g := w.heap.size + 1 + 1) (by simp) #[.int .i64 0, .int .u64 0, .string (⟨#[]⟩ : ByteArray), .int .i64 0] 37)
  have za := M0.out.box (.tail _ (.tail _ (.head _))); have zb := M0.out.box (.tail _ (.head _)); have zz := M0.out.box (.head _); have fz := M0.out.free (.head _)
  go_enter Try.func23, Try.ntmps23
  go_wp2_with fail
  repeat (go_quiet (fail); go_wp2_with fail)
  refine (impl_within.calls op 6 9 false _ bw).mono ?_
  rintro e v1 ⟨rfl, hb⟩
  have M1 := Aside0.mk (M0.out.step hb.below); clear hb za zb zz fz M0
  have za := M1.out.box (.tail _ (.tail _ (.head _))); have zb := M1.out.box (.tail _ (.head _)); have zz := M1.out.box (.head _); have fz := M1.out.free (.head _)
  go_wp2_with fail
  repeat (go_quiet (fail); go_wp2_with fail)
  refine (sameI k1 n1 t1 r1 k2 n2 t2 r2 _).mono ?_
  rintro e v2 ⟨rfl, hb⟩
  have M2 := Aside0.mk (M1.out.step hb); clear hb za zb zz fz M1
  have za := M2.out.box (.tail _ (.tail _ (.head _))); have zb := M2.out.box (.tail _ (.head _)); have zz := M2.out.box (.head _); have fz := M2.out.free (.head _)
  go_wp2_with fail
  repeat (go_quiet (fail); go_wp2_with fail)
  refine (boolI _ _).mono ?_
  rintro e v3 ⟨rfl, hb⟩
  have M3 := Aside0.mk (M2.out.step hb); clear hb za zb zz fz M2
  have za := M3.out.box (.tail _ (.tail _ (.head _))); have zb := M3.out.box (.tail _ (.head _)); have zz := M3.out.box (.head _); have fz := M3.out.free (.head _)
  go_wp2
  have M9 := Aside0.mk ((((M3.out.set (A := []) 0 (.int .i64 (1)) rfl).set (A := []) 1 (.int .u64 (bn (same k1 n1 t1 r1 k2 n2 t2 r2))) rfl).set (A := []) 2 (.string ((⟨#[]⟩ : ByteArray))) rfl).set (A := []) 3 (.int .i64 (0)) rfl)
  refine bodyPost_ret (results_ct rfl _ _ (w.heap.size + 1 + 1) 37 #[.int .i64 (1), .int .u64 (bn (same k1 n1 t1 r1 k2 n2 t2 r2)), .string ((⟨#[]⟩ : ByteArray)), .int .i64 (0)] (0, 0) _ rfl (M9.out.blk (.head _)) Try.underlying37 rfl (by kernel_rfl)) rfl ?_
  exact ⟨by rw [HR.out]; rfl, M9.out.below⟩
set_option maxHeartbeats 8000000 in
set_option maxRecDepth 100000 in
theorem i_other_2o (op k1 n1 r1 k2 n2 r2 : Int) (t1 t2 : ByteArray) (w : World) (hn1 : 0 ≤ n1 ∧ n1 < 18446744073709551616) (hn2 : 0 ≤ n2 ∧ n2 < 18446744073709551616) (hs1 : t1.size ≤ 1048576) (hs2 : t2.size ≤ 1048576) (a0 : (k1 == 2) = true) (a1 : (k2 == 2) = false) (a2 : (k1 == 3) = false) (b0 : (op == 10) = false) (b1 : (op == 11) = true) (bw : impl_within.f op 6 9 = some false)
    (hres : binV op k1 n1 t1 r1 k2 n2 t2 r2 = (1, bn (!same k1 n1 t1 r1 k2 n2 t2 r2), (⟨#[]⟩ : ByteArray), 0, (⟨#[]⟩ : ByteArray))) :
    Calls Try.prog 23 #[.int .i64 op, .agg #[.int .i64 k1, .int .u64 n1, .string t1, .int .i64 r1], .agg #[.int .i64 k2, .int .u64 n2, .string t2, .int .i64 r2]] w fun e w' => e = .returned (.tuple #[.agg #[.int .i64 (binV op k1 n1 t1 r1 k2 n2 t2 r2).1, .int .u64 (binV op k1 n1 t1 r1 k2 n2 t2 r2).2.1, .string (binV op k1 n1 t1 r1 k2 n2 t2 r2).2.2.1, .int .i64 (binV op k1 n1 t1 r1 k2 n2 t2 r2).2.2.2.1], .string (binV op k1 n1 t1 r1 k2 n2 t2 r2).2.2.2.2]) ∧ Below w.heap.size w w' := by
  have hu := Try.underlying37
  have HR := Aside0.mk hres; clear hres
  have M0 := Aside0.mk ((((Mem.start w).allocAt (g := w.heap.size) rfl #[.int .i64 k1, .int .u64 n1, .string t1, .int .i64 r1] 37).allocAt (g := w.heap.size + 1) (by simp) #[.int .i64 k2, .int .u64 n2, .string t2, .int .i64 r2] 37).allocAt (g := w.heap.size + 1 + 1) (by simp) #[.int .i64 0, .int .u64 0, .string (⟨#[]⟩ : ByteArray), .int .i64 0] 37)
  have za := M0.out.box (.tail _ (.tail _ (.head _))); have zb := M0.out.box (.tail _ (.head _)); have zz := M0.out.box (.head _); have fz := M0.out.free (.head _)
  go_enter Try.func23, Try.ntmps23
  go_wp2_with fail
  repeat (go_quiet (fail); go_wp2_with fail)
  refine (impl_within.calls op 6 9 false _ bw).mono ?_
  rintro e v1 ⟨rfl, hb⟩
  have M1 := Aside0.mk (M0.out.step hb.below); clear hb za zb zz fz M0
  have za := M1.out.box (.tail _ (.tail _ (.head _))); have zb := M1.out.box (.tail _ (.head _)); have zz := M1.out.box (.head _); have fz := M1.out.free (.head _)
  go_wp2_with fail
  repeat (go_quiet (fail); go_wp2_with fail)
  refine (sameI k1 n1 t1 r1 k2 n2 t2 r2 _).mono ?_
  rintro e v2 ⟨rfl, hb⟩
  have M2 := Aside0.mk (M1.out.step hb); clear hb za zb zz fz M1
  have za := M2.out.box (.tail _ (.tail _ (.head _))); have zb := M2.out.box (.tail _ (.head _)); have zz := M2.out.box (.head _); have fz := M2.out.free (.head _)
  go_wp2_with fail
  repeat (go_quiet (fail); go_wp2_with fail)
  refine (boolI _ _).mono ?_
  rintro e v3 ⟨rfl, hb⟩
  have M3 := Aside0.mk (M2.out.step hb); clear hb za zb zz fz M2
  have za := M3.out.box (.tail _ (.tail _ (.head _))); have zb := M3.out.box (.tail _ (.head _)); have zz := M3.out.box (.head _); have fz := M3.out.free (.head _)
  go_wp2
  have M9 := Aside0.mk ((((M3.out.set (A := []) 0 (.int .i64 (1)) rfl).set (A := []) 1 (.int .u64 (bn (!same k1 n1 t1 r1 k2 n2 t2 r2))) rfl).set (A := []) 2 (.string ((⟨#[]⟩ : ByteArray))) rfl).set (A := []) 3 (.int .i64 (0)) rfl)
  refine bodyPost_ret (results_ct rfl _ _ (w.heap.size + 1 + 1) 37 #[.int .i64 (1), .int .u64 (bn (!same k1 n1 t1 r1 k2 n2 t2 r2)), .string ((⟨#[]⟩ : ByteArray)), .int .i64 (0)] (0, 0) _ rfl (M9.out.blk (.head _)) Try.underlying37 rfl (by kernel_rfl)) rfl ?_
  exact ⟨by rw [HR.out]; rfl, M9.out.below⟩
set_option maxHeartbeats 8000000 in
set_option maxRecDepth 100000 in
theorem i_same_33 (op k1 n1 r1 k2 n2 r2 : Int) (t1 t2 : ByteArray) (w : World) (hn1 : 0 ≤ n1 ∧ n1 < 18446744073709551616) (hn2 : 0 ≤ n2 ∧ n2 < 18446744073709551616) (hs1 : t1.size ≤ 1048576) (hs2 : t2.size ≤ 1048576) (a0 : (k1 == 2) = false) (a2 : (k1 == 3) = true) (a3 : (k2 == 3) = true) (b0 : (op == 10) = true) (bw : impl_within.f op 6 9 = some false)
    (hres : binV op k1 n1 t1 r1 k2 n2 t2 r2 = (1, bn (same k1 n1 t1 r1 k2 n2 t2 r2), (⟨#[]⟩ : ByteArray), 0, (⟨#[]⟩ : ByteArray))) :
    Calls Try.prog 23 #[.int .i64 op, .agg #[.int .i64 k1, .int .u64 n1, .string t1, .int .i64 r1], .agg #[.int .i64 k2, .int .u64 n2, .string t2, .int .i64 r2]] w fun e w' => e = .returned (.tuple #[.agg #[.int .i64 (binV op k1 n1 t1 r1 k2 n2 t2 r2).1, .int .u64 (binV op k1 n1 t1 r1 k2 n2 t2 r2).2.1, .string (binV op k1 n1 t1 r1 k2 n2 t2 r2).2.2.1, .int .i64 (binV op k1 n1 t1 r1 k2 n2 t2 r2).2.2.2.1], .string (binV op k1 n1 t1 r1 k2 n2 t2 r2).2.2.2.2]) ∧ Below w.heap.size w w' := by
  have hu := Try.underlying37
  have HR := Aside0.mk hres; clear hres
  have M0 := Aside0.mk ((((Mem.start w).allocAt (g := w.heap.size) rfl #[.int .i64 k1, .int .u64 n1, .string t1, .int .i64 r1] 37).allocAt (g := w.heap.size + 1) (by simp) #[.int .i64 k2, .int .u64 n2, .string t2, .int .i64 r2] 37).allocAt (g := w.heap.size + 1 + 1) (by simp) #[.int .i64 0, .int .u64 0, .string (⟨#[]⟩ : ByteArray), .int .i64 0] 37)
  have za := M0.out.box (.tail _ (.tail _ (.head _))); have zb := M0.out.box (.tail _ (.head _)); have zz := M0.out.box (.head _); have fz := M0.out.free (.head _)
  go_enter Try.func23, Try.ntmps23
  go_wp2_with fail
  repeat (go_quiet (fail); go_wp2_with fail)
  refine (impl_within.calls op 6 9 false _ bw).mono ?_
  rintro e v1 ⟨rfl, hb⟩
  have M1 := Aside0.mk (M0.out.step hb.below); clear hb za zb zz fz M0
  have za := M1.out.box (.tail _ (.tail _ (.head _))); have zb := M1.out.box (.tail _ (.head _)); have zz := M1.out.box (.head _); have fz := M1.out.free (.head _)
  go_wp2_with fail
  repeat (go_quiet (fail); go_wp2_with fail)
  refine (sameI k1 n1 t1 r1 k2 n2 t2 r2 _).mono ?_
  rintro e v2 ⟨rfl, hb⟩
  have M2 := Aside0.mk (M1.out.step hb); clear hb za zb zz fz M1
  have za := M2.out.box (.tail _ (.tail _ (.head _))); have zb := M2.out.box (.tail _ (.head _)); have zz := M2.out.box (.head _); have fz := M2.out.free (.head _)
  go_wp2_with fail
  repeat (go_quiet (fail); go_wp2_with fail)
  refine (boolI _ _).mono ?_
  rintro e v3 ⟨rfl, hb⟩
  have M3 := Aside0.mk (M2.out.step hb); clear hb za zb zz fz M2
  have za := M3.out.box (.tail _ (.tail _ (.head _))); have zb := M3.out.box (.tail _ (.head _)); have zz := M3.out.box (.head _); have fz := M3.out.free (.head _)
  go_wp2
  have M9 := Aside0.mk ((((M3.out.set (A := []) 0 (.int .i64 (1)) rfl).set (A := []) 1 (.int .u64 (bn (same k1 n1 t1 r1 k2 n2 t2 r2))) rfl).set (A := []) 2 (.string ((⟨#[]⟩ : ByteArray))) rfl).set (A := []) 3 (.int .i64 (0)) rfl)
  refine bodyPost_ret (results_ct rfl _ _ (w.heap.size + 1 + 1) 37 #[.int .i64 (1), .int .u64 (bn (same k1 n1 t1 r1 k2 n2 t2 r2)), .string ((⟨#[]⟩ : ByteArray)), .int .i64 (0)] (0, 0) _ rfl (M9.out.blk (.head _)) Try.underlying37 rfl (by kernel_rfl)) rfl ?_
  exact ⟨by rw [HR.out]; rfl, M9.out.below⟩
set_option maxHeartbeats 8000000 in
set_option maxRecDepth 100000 in
theorem i_other_33 (op k1 n1 r1 k2 n2 r2 : Int) (t1 t2 : ByteArray) (w : World) (hn1 : 0 ≤ n1 ∧ n1 < 18446744073709551616) (hn2 : 0 ≤ n2 ∧ n2 < 18446744073709551616) (hs1 : t1.size ≤ 1048576) (hs2 : t2.size ≤ 1048576) (a0 : (k1 == 2) = false) (a2 : (k1 == 3) = true) (a3 : (k2 == 3) = true) (b0 : (op == 10) = false) (b1 : (op == 11) = true) (bw : impl_within.f op 6 9 = some false)
    (hres : binV op k1 n1 t1 r1 k2 n2 t2 r2 = (1, bn (!same k1 n1 t1 r1 k2 n2 t2 r2), (⟨#[]⟩ : ByteArray), 0, (⟨#[]⟩ : ByteArray))) :
    Calls Try.prog 23 #[.int .i64 op, .agg #[.int .i64 k1, .int .u64 n1, .string t1, .int .i64 r1], .agg #[.int .i64 k2, .int .u64 n2, .string t2, .int .i64 r2]] w fun e w' => e = .returned (.tuple #[.agg #[.int .i64 (binV op k1 n1 t1 r1 k2 n2 t2 r2).1, .int .u64 (binV op k1 n1 t1 r1 k2 n2 t2 r2).2.1, .string (binV op k1 n1 t1 r1 k2 n2 t2 r2).2.2.1, .int .i64 (binV op k1 n1 t1 r1 k2 n2 t2 r2).2.2.2.1], .string (binV op k1 n1 t1 r1 k2 n2 t2 r2).2.2.2.2]) ∧ Below w.heap.size w w' := by
  have hu := Try.underlying37
  have HR := Aside0.mk hres; clear hres
  have M0 := Aside0.mk ((((Mem.start w).allocAt (g := w.heap.size) rfl #[.int .i64 k1, .int .u64 n1, .string t1, .int .i64 r1] 37).allocAt (g := w.heap.size + 1) (by simp) #[.int .i64 k2, .int .u64 n2, .string t2, .int .i64 r2] 37).allocAt (g := w.heap.size + 1 + 1) (by simp) #[.int .i64 0, .int .u64 0, .string (⟨#[]⟩ : ByteArray), .int .i64 0] 37)
  have za := M0.out.box (.tail _ (.tail _ (.head _))); have zb := M0.out.box (.tail _ (.head _)); have zz := M0.out.box (.head _); have fz := M0.out.free (.head _)
  go_enter Try.func23, Try.ntmps23
  go_wp2_with fail
  repeat (go_quiet (fail); go_wp2_with fail)
  refine (impl_within.calls op 6 9 false _ bw).mono ?_
  rintro e v1 ⟨rfl, hb⟩
  have M1 := Aside0.mk (M0.out.step hb.below); clear hb za zb zz fz M0
  have za := M1.out.box (.tail _ (.tail _ (.head _))); have zb := M1.out.box (.tail _ (.head _)); have zz := M1.out.box (.head _); have fz := M1.out.free (.head _)
  go_wp2_with fail
  repeat (go_quiet (fail); go_wp2_with fail)
  refine (sameI k1 n1 t1 r1 k2 n2 t2 r2 _).mono ?_
  rintro e v2 ⟨rfl, hb⟩
  have M2 := Aside0.mk (M1.out.step hb); clear hb za zb zz fz M1
  have za := M2.out.box (.tail _ (.tail _ (.head _))); have zb := M2.out.box (.tail _ (.head _)); have zz := M2.out.box (.head _); have fz := M2.out.free (.head _)
  go_wp2_with fail
  repeat (go_quiet (fail); go_wp2_with fail)
  refine (boolI _ _).mono ?_
  rintro e v3 ⟨rfl, hb⟩
  have M3 := Aside0.mk (M2.out.step hb); clear hb za zb zz fz M2
  have za := M3.out.box (.tail _ (.tail _ (.head _))); have zb := M3.out.box (.tail _ (.head _)); have zz := M3.out.box (.head _); have fz := M3.out.free (.head _)
  go_wp2
  have M9 := Aside0.mk ((((M3.out.set (A := []) 0 (.int .i64 (1)) rfl).set (A := []) 1 (.int .u64 (bn (!same k1 n1 t1 r1 k2 n2 t2 r2))) rfl).set (A := []) 2 (.string ((⟨#[]⟩ : ByteArray))) rfl).set (A := []) 3 (.int .i64 (0)) rfl)
  refine bodyPost_ret (results_ct rfl _ _ (w.heap.size + 1 + 1) 37 #[.int .i64 (1), .int .u64 (bn (!same k1 n1 t1 r1 k2 n2 t2 r2)), .string ((⟨#[]⟩ : ByteArray)), .int .i64 (0)] (0, 0) _ rfl (M9.out.blk (.head _)) Try.underlying37 rfl (by kernel_rfl)) rfl ?_
  exact ⟨by rw [HR.out]; rfl, M9.out.below⟩
set_option maxHeartbeats 8000000 in
set_option maxRecDepth 100000 in
theorem i_same_3o (op k1 n1 r1 k2 n2 r2 : Int) (t1 t2 : ByteArray) (w : World) (hn1 : 0 ≤ n1 ∧ n1 < 18446744073709551616) (hn2 : 0 ≤ n2 ∧ n2 < 18446744073709551616) (hs1 : t1.size ≤ 1048576) (hs2 : t2.size ≤ 1048576) (a0 : (k1 == 2) = false) (a2 : (k1 == 3) = true) (a3 : (k2 == 3) = false) (b0 : (op == 10) = true) (bw : impl_within.f op 6 9 = some false)
    (hres : binV op k1 n1 t1 r1 k2 n2 t2 r2 = (1, bn (same k1 n1 t1 r1 k2 n2 t2 r2), (⟨#[]⟩ : ByteArray), 0, (⟨#[]⟩ : ByteArray))) :
    Calls Try.prog 23 #[.int .i64 op, .agg #[.int .i64 k1, .int .u64 n1, .string t1, .int .i64 r1], .agg #[.int .i64 k2, .int .u64 n2, .string t2, .int .i64 r2]] w fun e w' => e = .returned (.tuple #[.agg #[.int .i64 (binV op k1 n1 t1 r1 k2 n2 t2 r2).1, .int .u64 (binV op k1 n1 t1 r1 k2 n2 t2 r2).2.1, .string (binV op k1 n1 t1 r1 k2 n2 t2 r2).2.2.1, .int .i64 (binV op k1 n1 t1 r1 k2 n2 t2 r2).2.2.2.1], .string (binV op k1 n1 t1 r1 k2 n2 t2 r2).2.2.2.2]) ∧ Below w.heap.size w w' := by
  have hu := Try.underlying37
  have HR := Aside0.mk hres; clear hres
  have M0 := Aside0.mk ((((Mem.start w).allocAt (g := w.heap.size) rfl #[.int .i64 k1, .int .u64 n1, .string t1, .int .i64 r1] 37).allocAt (g := w.heap.size + 1) (by simp) #[.int .i64 k2, .int .u64 n2, .string t2, .int .i64 r2] 37).allocAt (g := w.heap.size + 1 + 1) (by simp) #[.int .i64 0, .int .u64 0, .string (⟨#[]⟩ : ByteArray), .int .i64 0] 37)
  have za := M0.out.box (.tail _ (.tail _ (.head _))); have zb := M0.out.box (.tail _ (.head _)); have zz := M0.out.box (.head _); have fz := M0.out.free (.head _)
  go_enter Try.func23, Try.ntmps23
  go_wp2_with fail
  repeat (go_quiet (fail); go_wp2_with fail)
  refine (impl_within.calls op 6 9 false _ bw).mono ?_
  rintro e v1 ⟨rfl, hb⟩
  have M1 := Aside0.mk (M0.out.step hb.below); clear hb za zb zz fz M0
  have za := M1.out.box (.tail _ (.tail _ (.head _))); have zb := M1.out.box (.tail _ (.head _)); have zz := M1.out.box (.head _); have fz := M1.out.free (.head _)
  go_wp2_with fail
  repeat (go_quiet (fail); go_wp2_with fail)
  refine (sameI k1 n1 t1 r1 k2 n2 t2 r2 _).mono ?_
  rintro e v2 ⟨rfl, hb⟩
  have M2 := Aside0.mk (M1.out.step hb); clear hb za zb zz fz M1
  have za := M2.out.box (.tail _ (.tail _ (.head _))); have zb := M2.out.box (.tail _ (.head _)); have zz := M2.out.box (.head _); have fz := M2.out.free (.head _)
  go_wp2_with fail
  repeat (go_quiet (fail); go_wp2_with fail)
  refine (boolI _ _).mono ?_
  rintro e v3 ⟨rfl, hb⟩
  have M3 := Aside0.mk (M2.out.step hb); clear hb za zb zz fz M2
  have za := M3.out.box (.tail _ (.tail _ (.head _))); have zb := M3.out.box (.tail _ (.head _)); have zz := M3.out.box (.head _); have fz := M3.out.free (.head _)
  go_wp2
  have M9 := Aside0.mk ((((M3.out.set (A := []) 0 (.int .i64 (1)) rfl).set (A := []) 1 (.int .u64 (bn (same k1 n1 t1 r1 k2 n2 t2 r2))) rfl).set (A := []) 2 (.string ((⟨#[]⟩ : ByteArray))) rfl).set (A := []) 3 (.int .i64 (0)) rfl)
  refine bodyPost_ret (results_ct rfl _ _ (w.heap.size + 1 + 1) 37 #[.int .i64 (1), .int .u64 (bn (same k1 n1 t1 r1 k2 n2 t2 r2)), .string ((⟨#[]⟩ : ByteArray)), .int .i64 (0)] (0, 0) _ rfl (M9.out.blk (.head _)) Try.underlying37 rfl (by kernel_rfl)) rfl ?_
  exact ⟨by rw [HR.out]; rfl, M9.out.below⟩
set_option maxHeartbeats 8000000 in
set_option maxRecDepth 100000 in
theorem i_other_3o (op k1 n1 r1 k2 n2 r2 : Int) (t1 t2 : ByteArray) (w : World) (hn1 : 0 ≤ n1 ∧ n1 < 18446744073709551616) (hn2 : 0 ≤ n2 ∧ n2 < 18446744073709551616) (hs1 : t1.size ≤ 1048576) (hs2 : t2.size ≤ 1048576) (a0 : (k1 == 2) = false) (a2 : (k1 == 3) = true) (a3 : (k2 == 3) = false) (b0 : (op == 10) = false) (b1 : (op == 11) = true) (bw : impl_within.f op 6 9 = some false)
    (hres : binV op k1 n1 t1 r1 k2 n2 t2 r2 = (1, bn (!same k1 n1 t1 r1 k2 n2 t2 r2), (⟨#[]⟩ : ByteArray), 0, (⟨#[]⟩ : ByteArray))) :
    Calls Try.prog 23 #[.int .i64 op, .agg #[.int .i64 k1, .int .u64 n1, .string t1, .int .i64 r1], .agg #[.int .i64 k2, .int .u64 n2, .string t2, .int .i64 r2]] w fun e w' => e = .returned (.tuple #[.agg #[.int .i64 (binV op k1 n1 t1 r1 k2 n2 t2 r2).1, .int .u64 (binV op k1 n1 t1 r1 k2 n2 t2 r2).2.1, .string (binV op k1 n1 t1 r1 k2 n2 t2 r2).2.2.1, .int .i64 (binV op k1 n1 t1 r1 k2 n2 t2 r2).2.2.2.1], .string (binV op k1 n1 t1 r1 k2 n2 t2 r2).2.2.2.2]) ∧ Below w.heap.size w w' := by
  have hu := Try.underlying37
  have HR := Aside0.mk hres; clear hres
  have M0 := Aside0.mk ((((Mem.start w).allocAt (g := w.heap.size) rfl #[.int .i64 k1, .int .u64 n1, .string t1, .int .i64 r1] 37).allocAt (g := w.heap.size + 1) (by simp) #[.int .i64 k2, .int .u64 n2, .string t2, .int .i64 r2] 37).allocAt (g := w.heap.size + 1 + 1) (by simp) #[.int .i64 0, .int .u64 0, .string (⟨#[]⟩ : ByteArray), .int .i64 0] 37)
  have za := M0.out.box (.tail _ (.tail _ (.head _))); have zb := M0.out.box (.tail _ (.head _)); have zz := M0.out.box (.head _); have fz := M0.out.free (.head _)
  go_enter Try.func23, Try.ntmps23
  go_wp2_with fail
  repeat (go_quiet (fail); go_wp2_with fail)
  refine (impl_within.calls op 6 9 false _ bw).mono ?_
  rintro e v1 ⟨rfl, hb⟩
  have M1 := Aside0.mk (M0.out.step hb.below); clear hb za zb zz fz M0
  have za := M1.out.box (.tail _ (.tail _ (.head _))); have zb := M1.out.box (.tail _ (.head _)); have zz := M1.out.box (.head _); have fz := M1.out.free (.head _)
  go_wp2_with fail
  repeat (go_quiet (fail); go_wp2_with fail)
  refine (sameI k1 n1 t1 r1 k2 n2 t2 r2 _).mono ?_
  rintro e v2 ⟨rfl, hb⟩
  have M2 := Aside0.mk (M1.out.step hb); clear hb za zb zz fz M1
  have za := M2.out.box (.tail _ (.tail _ (.head _))); have zb := M2.out.box (.tail _ (.head _)); have zz := M2.out.box (.head _); have fz := M2.out.free (.head _)
  go_wp2_with fail
  repeat (go_quiet (fail); go_wp2_with fail)
  refine (boolI _ _).mono ?_
  rintro e v3 ⟨rfl, hb⟩
  have M3 := Aside0.mk (M2.out.step hb); clear hb za zb zz fz M2
  have za := M3.out.box (.tail _ (.tail _ (.head _))); have zb := M3.out.box (.tail _ (.head _)); have zz := M3.out.box (.head _); have fz := M3.out.free (.head _)
  go_wp2
  have M9 := Aside0.mk ((((M3.out.set (A := []) 0 (.int .i64 (1)) rfl).set (A := []) 1 (.int .u64 (bn (!same k1 n1 t1 r1 k2 n2 t2 r2))) rfl).set (A := []) 2 (.string ((⟨#[]⟩ : ByteArray))) rfl).set (A := []) 3 (.int .i64 (0)) rfl)
  refine bodyPost_ret (results_ct rfl _ _ (w.heap.size + 1 + 1) 37 #[.int .i64 (1), .int .u64 (bn (!same k1 n1 t1 r1 k2 n2 t2 r2)), .string ((⟨#[]⟩ : ByteArray)), .int .i64 (0)] (0, 0) _ rfl (M9.out.blk (.head _)) Try.underlying37 rfl (by kernel_rfl)) rfl ?_
  exact ⟨by rw [HR.out]; rfl, M9.out.below⟩
set_option maxHeartbeats 8000000 in
set_option maxRecDepth 100000 in
theorem i_same_oo (op k1 n1 r1 k2 n2 r2 : Int) (t1 t2 : ByteArray) (w : World) (hn1 : 0 ≤ n1 ∧ n1 < 18446744073709551616) (hn2 : 0 ≤ n2 ∧ n2 < 18446744073709551616) (hs1 : t1.size ≤ 1048576) (hs2 : t2.size ≤ 1048576) (a0 : (k1 == 2) = false) (a2 : (k1 == 3) = false) (b0 : (op == 10) = true) (bw : impl_within.f op 6 9 = some false)
    (hres : binV op k1 n1 t1 r1 k2 n2 t2 r2 = (1, bn (same k1 n1 t1 r1 k2 n2 t2 r2), (⟨#[]⟩ : ByteArray), 0, (⟨#[]⟩ : ByteArray))) :
    Calls Try.prog 23 #[.int .i64 op, .agg #[.int .i64 k1, .int .u64 n1, .string t1, .int .i64 r1], .agg #[.int .i64 k2, .int .u64 n2, .string t2, .int .i64 r2]] w fun e w' => e = .returned (.tuple #[.agg #[.int .i64 (binV op k1 n1 t1 r1 k2 n2 t2 r2).1, .int .u64 (binV op k1 n1 t1 r1 k2 n2 t2 r2).2.1, .string (binV op k1 n1 t1 r1 k2 n2 t2 r2).2.2.1, .int .i64 (binV op k1 n1 t1 r1 k2 n2 t2 r2).2.2.2.1], .string (binV op k1 n1 t1 r1 k2 n2 t2 r2).2.2.2.2]) ∧ Below w.heap.size w w' := by
  have hu := Try.underlying37
  have HR := Aside0.mk hres; clear hres
  have M0 := Aside0.mk ((((Mem.start w).allocAt (g := w.heap.size) rfl #[.int .i64 k1, .int .u64 n1, .string t1, .int .i64 r1] 37).allocAt (g := w.heap.size + 1) (by simp) #[.int .i64 k2, .int .u64 n2, .string t2, .int .i64 r2] 37).allocAt (g := w.heap.size + 1 + 1) (by simp) #[.int .i64 0, .int .u64 0, .string (⟨#[]⟩ : ByteArray), .int .i64 0] 37)
  have za := M0.out.box (.tail _ (.tail _ (.head _))); have zb := M0.out.box (.tail _ (.head _)); have zz := M0.out.box (.head _); have fz := M0.out.free (.head _)
  go_enter Try.func23, Try.ntmps23
  go_wp2_with fail
  repeat (go_quiet (fail); go_wp2_with fail)
  refine (impl_within.calls op 6 9 false _ bw).mono ?_
  rintro e v1 ⟨rfl, hb⟩
  have M1 := Aside0.mk (M0.out.step hb.below); clear hb za zb zz fz M0
  have za := M1.out.box (.tail _ (.tail _ (.head _))); have zb := M1.out.box (.tail _ (.head _)); have zz := M1.out.box (.head _); have fz := M1.out.free (.head _)
  go_wp2_with fail
  repeat (go_quiet (fail); go_wp2_with fail)
  refine (sameI k1 n1 t1 r1 k2 n2 t2 r2 _).mono ?_
  rintro e v2 ⟨rfl, hb⟩
  have M2 := Aside0.mk (M1.out.step hb); clear hb za zb zz fz M1
  have za := M2.out.box (.tail _ (.tail _ (.head _))); have zb := M2.out.box (.tail _ (.head _)); have zz := M2.out.box (.head _); have fz := M2.out.free (.head _)
  go_wp2_with fail
  repeat (go_quiet (fail); go_wp2_with fail)
  refine (boolI _ _).mono ?_
  rintro e v3 ⟨rfl, hb⟩
  have M3 := Aside0.mk (M2.out.step hb); clear hb za zb zz fz M2
  have za := M3.out.box (.tail _ (.tail _ (.head _))); have zb := M3.out.box (.tail _ (.head _)); have zz := M3.out.box (.head _); have fz := M3.out.free (.head _)
  go_wp2
  have M9 := Aside0.mk ((((M3.out.set (A := []) 0 (.int .i64 (1)) rfl).set (A := []) 1 (.int .u64 (bn (same k1 n1 t1 r1 k2 n2 t2 r2))) rfl).set (A := []) 2 (.string ((⟨#[]⟩ : ByteArray))) rfl).set (A := []) 3 (.int .i64 (0)) rfl)
  refine bodyPost_ret (results_ct rfl _ _ (w.heap.size + 1 + 1) 37 #[.int .i64 (1), .int .u64 (bn (same k1 n1 t1 r1 k2 n2 t2 r2)), .string ((⟨#[]⟩ : ByteArray)), .int .i64 (0)] (0, 0) _ rfl (M9.out.blk (.head _)) Try.underlying37 rfl (by kernel_rfl)) rfl ?_
  exact ⟨by rw [HR.out]; rfl, M9.out.below⟩
set_option maxHeartbeats 8000000 in
set_option maxRecDepth 100000 in
theorem i_other_oo (op k1 n1 r1 k2 n2 r2 : Int) (t1 t2 : ByteArray) (w : World) (hn1 : 0 ≤ n1 ∧ n1 < 18446744073709551616) (hn2 : 0 ≤ n2 ∧ n2 < 18446744073709551616) (hs1 : t1.size ≤ 1048576) (hs2 : t2.size ≤ 1048576) (a0 : (k1 == 2) = false) (a2 : (k1 == 3) = false) (b0 : (op == 10) = false) (b1 : (op == 11) = true) (bw : impl_within.f op 6 9 = some false)
    (hres : binV op k1 n1 t1 r1 k2 n2 t2 r2 = (1, bn (!same k1 n1 t1 r1 k2 n2 t2 r2), (⟨#[]⟩ : ByteArray), 0, (⟨#[]⟩ : ByteArray))) :
    Calls Try.prog 23 #[.int .i64 op, .agg #[.int .i64 k1, .int .u64 n1, .string t1, .int .i64 r1], .agg #[.int .i64 k2, .int .u64 n2, .string t2, .int .i64 r2]] w fun e w' => e = .returned (.tuple #[.agg #[.int .i64 (binV op k1 n1 t1 r1 k2 n2 t2 r2).1, .int .u64 (binV op k1 n1 t1 r1 k2 n2 t2 r2).2.1, .string (binV op k1 n1 t1 r1 k2 n2 t2 r2).2.2.1, .int .i64 (binV op k1 n1 t1 r1 k2 n2 t2 r2).2.2.2.1], .string (binV op k1 n1 t1 r1 k2 n2 t2 r2).2.2.2.2]) ∧ Below w.heap.size w w' := by
  have hu := Try.underlying37
  have HR := Aside0.mk hres; clear hres
  have M0 := Aside0.mk ((((Mem.start w).allocAt (g := w.heap.size) rfl #[.int .i64 k1, .int .u64 n1, .string t1, .int .i64 r1] 37).allocAt (g := w.heap.size + 1) (by simp) #[.int .i64 k2, .int .u64 n2, .string t2, .int .i64 r2] 37).allocAt (g := w.heap.size + 1 + 1) (by simp) #[.int .i64 0, .int .u64 0, .string (⟨#[]⟩ : ByteArray), .int .i64 0] 37)
  have za := M0.out.box (.tail _ (.tail _ (.head _))); have zb := M0.out.box (.tail _ (.head _)); have zz := M0.out.box (.head _); have fz := M0.out.free (.head _)
  go_enter Try.func23, Try.ntmps23
  go_wp2_with fail
  repeat (go_quiet (fail); go_wp2_with fail)
  refine (impl_within.calls op 6 9 false _ bw).mono ?_
  rintro e v1 ⟨rfl, hb⟩
  have M1 := Aside0.mk (M0.out.step hb.below); clear hb za zb zz fz M0
  have za := M1.out.box (.tail _ (.tail _ (.head _))); have zb := M1.out.box (.tail _ (.head _)); have zz := M1.out.box (.head _); have fz := M1.out.free (.head _)
  go_wp2_with fail
  repeat (go_quiet (fail); go_wp2_with fail)
  refine (sameI k1 n1 t1 r1 k2 n2 t2 r2 _).mono ?_
  rintro e v2 ⟨rfl, hb⟩
  have M2 := Aside0.mk (M1.out.step hb); clear hb za zb zz fz M1
  have za := M2.out.box (.tail _ (.tail _ (.head _))); have zb := M2.out.box (.tail _ (.head _)); have zz := M2.out.box (.head _); have fz := M2.out.free (.head _)
  go_wp2_with fail
  repeat (go_quiet (fail); go_wp2_with fail)
  refine (boolI _ _).mono ?_
  rintro e v3 ⟨rfl, hb⟩
  have M3 := Aside0.mk (M2.out.step hb); clear hb za zb zz fz M2
  have za := M3.out.box (.tail _ (.tail _ (.head _))); have zb := M3.out.box (.tail _ (.head _)); have zz := M3.out.box (.head _); have fz := M3.out.free (.head _)
  go_wp2
  have M9 := Aside0.mk ((((M3.out.set (A := []) 0 (.int .i64 (1)) rfl).set (A := []) 1 (.int .u64 (bn (!same k1 n1 t1 r1 k2 n2 t2 r2))) rfl).set (A := []) 2 (.string ((⟨#[]⟩ : ByteArray))) rfl).set (A := []) 3 (.int .i64 (0)) rfl)
  refine bodyPost_ret (results_ct rfl _ _ (w.heap.size + 1 + 1) 37 #[.int .i64 (1), .int .u64 (bn (!same k1 n1 t1 r1 k2 n2 t2 r2)), .string ((⟨#[]⟩ : ByteArray)), .int .i64 (0)] (0, 0) _ rfl (M9.out.blk (.head _)) Try.underlying37 rfl (by kernel_rfl)) rfl ?_
  exact ⟨by rw [HR.out]; rfl, M9.out.below⟩
set_option maxHeartbeats 8000000 in
set_option maxRecDepth 100000 in
theorem i_type_2o_true (op k1 n1 r1 k2 n2 r2 : Int) (t1 t2 : ByteArray) (w : World) (hn1 : 0 ≤ n1 ∧ n1 < 18446744073709551616) (hn2 : 0 ≤ n2 ∧ n2 < 18446744073709551616) (hs1 : t1.size ≤ 1048576) (hs2 : t2.size ≤ 1048576) (a0 : (k1 == 2) = true) (a1 : (k2 == 2) = false) (a2 : (k1 == 3) = false) (b0 : (op == 10) = false) (b1 : (op == 11) = false) (bw : impl_within.f op 6 9 = some true)
    (hres : binV op k1 n1 t1 r1 k2 n2 t2 r2 = (0, 0, (⟨#[]⟩ : ByteArray), 0, (⟨#[116, 121, 112, 101]⟩ : ByteArray))) :
    Calls Try.prog 23 #[.int .i64 op, .agg #[.int .i64 k1, .int .u64 n1, .string t1, .int .i64 r1], .agg #[.int .i64 k2, .int .u64 n2, .string t2, .int .i64 r2]] w fun e w' => e = .returned (.tuple #[.agg #[.int .i64 (binV op k1 n1 t1 r1 k2 n2 t2 r2).1, .int .u64 (binV op k1 n1 t1 r1 k2 n2 t2 r2).2.1, .string (binV op k1 n1 t1 r1 k2 n2 t2 r2).2.2.1, .int .i64 (binV op k1 n1 t1 r1 k2 n2 t2 r2).2.2.2.1], .string (binV op k1 n1 t1 r1 k2 n2 t2 r2).2.2.2.2]) ∧ Below w.heap.size w w' := by
  have hu := Try.underlying37
  have HR := Aside0.mk hres; clear hres
  have M0 := Aside0.mk ((((Mem.start w).allocAt (g := w.heap.size) rfl #[.int .i64 k1, .int .u64 n1, .string t1, .int .i64 r1] 37).allocAt (g := w.heap.size + 1) (by simp) #[.int .i64 k2, .int .u64 n2, .string t2, .int .i64 r2] 37).allocAt (g := w.heap.size + 1 + 1) (by simp) #[.int .i64 0, .int .u64 0, .string (⟨#[]⟩ : ByteArray), .int .i64 0] 37)
  have za := M0.out.box (.tail _ (.tail _ (.head _))); have zb := M0.out.box (.tail _ (.head _)); have zz := M0.out.box (.head _); have fz := M0.out.free (.head _)
  go_enter Try.func23, Try.ntmps23
  go_wp2_with fail
  repeat (go_quiet (fail); go_wp2_with fail)
  refine (impl_within.calls op 6 9 true _ bw).mono ?_
  rintro e v1 ⟨rfl, hb⟩
  have M1 := Aside0.mk (M0.out.step hb.below); clear hb za zb zz fz M0
  have za := M1.out.box (.tail _ (.tail _ (.head _))); have zb := M1.out.box (.tail _ (.head _)); have zz := M1.out.box (.head _); have fz := M1.out.free (.head _)
  go_wp2
  have M9 := Aside0.mk ((((M1.out.set (A := []) 0 (.int .i64 (0)) rfl).set (A := []) 1 (.int .u64 (0)) rfl).set (A := []) 2 (.string ((⟨#[]⟩ : ByteArray))) rfl).set (A := []) 3 (.int .i64 (0)) rfl)
  refine bodyPost_ret (results_ct rfl _ _ (w.heap.size + 1 + 1) 37 #[.int .i64 (0), .int .u64 (0), .string ((⟨#[]⟩ : ByteArray)), .int .i64 (0)] (0, 0) _ rfl (M9.out.blk (.head _)) Try.underlying37 rfl (by kernel_rfl)) rfl ?_
  exact ⟨by rw [HR.out]; rfl, M9.out.below⟩
set_option maxHeartbeats 8000000 in
set_option maxRecDepth 100000 in
theorem i_type_2o_false (op k1 n1 r1 k2 n2 r2 : Int) (t1 t2 : ByteArray) (w : World) (hn1 : 0 ≤ n1 ∧ n1 < 18446744073709551616) (hn2 : 0 ≤ n2 ∧ n2 < 18446744073709551616) (hs1 : t1.size ≤ 1048576) (hs2 : t2.size ≤ 1048576) (a0 : (k1 == 2) = true) (a1 : (k2 == 2) = false) (a2 : (k1 == 3) = false) (b0 : (op == 10) = false) (b1 : (op == 11) = false) (bw : impl_within.f op 6 9 = some false)
    (hres : binV op k1 n1 t1 r1 k2 n2 t2 r2 = (0, 0, (⟨#[]⟩ : ByteArray), 0, (⟨#[116, 121, 112, 101]⟩ : ByteArray))) :
    Calls Try.prog 23 #[.int .i64 op, .agg #[.int .i64 k1, .int .u64 n1, .string t1, .int .i64 r1], .agg #[.int .i64 k2, .int .u64 n2, .string t2, .int .i64 r2]] w fun e w' => e = .returned (.tuple #[.agg #[.int .i64 (binV op k1 n1 t1 r1 k2 n2 t2 r2).1, .int .u64 (binV op k1 n1 t1 r1 k2 n2 t2 r2).2.1, .string (binV op k1 n1 t1 r1 k2 n2 t2 r2).2.2.1, .int .i64 (binV op k1 n1 t1 r1 k2 n2 t2 r2).2.2.2.1], .string (binV op k1 n1 t1 r1 k2 n2 t2 r2).2.2.2.2]) ∧ Below w.heap.size w w' := by
  have hu := Try.underlying37
  have HR := Aside0.mk hres; clear hres
  have M0 := Aside0.mk ((((Mem.start w).allocAt (g := w.heap.size) rfl #[.int .i64 k1, .int .u64 n1, .string t1, .int .i64 r1] 37).allocAt (g := w.heap.size + 1) (by simp) #[.int .i64 k2, .int .u64 n2, .string t2, .int .i64 r2] 37).allocAt (g := w.heap.size + 1 + 1) (by simp) #[.int .i64 0, .int .u64 0, .string (⟨#[]⟩ : ByteArray), .int .i64 0] 37)
  have za := M0.out.box (.tail _ (.tail _ (.head _))); have zb := M0.out.box (.tail _ (.head _)); have zz := M0.out.box (.head _); have fz := M0.out.free (.head _)
  go_enter Try.func23, Try.ntmps23
  go_wp2_with fail
  repeat (go_quiet (fail); go_wp2_with fail)
  refine (impl_within.calls op 6 9 false _ bw).mono ?_
  rintro e v1 ⟨rfl, hb⟩
  have M1 := Aside0.mk (M0.out.step hb.below); clear hb za zb zz fz M0
  have za := M1.out.box (.tail _ (.tail _ (.head _))); have zb := M1.out.box (.tail _ (.head _)); have zz := M1.out.box (.head _); have fz := M1.out.free (.head _)
  go_wp2
  have M9 := Aside0.mk ((((M1.out.set (A := []) 0 (.int .i64 (0)) rfl).set (A := []) 1 (.int .u64 (0)) rfl).set (A := []) 2 (.string ((⟨#[]⟩ : ByteArray))) rfl).set (A := []) 3 (.int .i64 (0)) rfl)
  refine bodyPost_ret (results_ct rfl _ _ (w.heap.size + 1 + 1) 37 #[.int .i64 (0), .int .u64 (0), .string ((⟨#[]⟩ : ByteArray)), .int .i64 (0)] (0, 0) _ rfl (M9.out.blk (.head _)) Try.underlying37 rfl (by kernel_rfl)) rfl ?_
  exact ⟨by rw [HR.out]; rfl, M9.out.below⟩
set_option maxHeartbeats 8000000 in
set_option maxRecDepth 100000 in
theorem i_type_3o_true (op k1 n1 r1 k2 n2 r2 : Int) (t1 t2 : ByteArray) (w : World) (hn1 : 0 ≤ n1 ∧ n1 < 18446744073709551616) (hn2 : 0 ≤ n2 ∧ n2 < 18446744073709551616) (hs1 : t1.size ≤ 1048576) (hs2 : t2.size ≤ 1048576) (a0 : (k1 == 2) = false) (a2 : (k1 == 3) = true) (a3 : (k2 == 3) = false) (b0 : (op == 10) = false) (b1 : (op == 11) = false) (bw : impl_within.f op 6 9 = some true)
    (hres : binV op k1 n1 t1 r1 k2 n2 t2 r2 = (0, 0, (⟨#[]⟩ : ByteArray), 0, (⟨#[116, 121, 112, 101]⟩ : ByteArray))) :
    Calls Try.prog 23 #[.int .i64 op, .agg #[.int .i64 k1, .int .u64 n1, .string t1, .int .i64 r1], .agg #[.int .i64 k2, .int .u64 n2, .string t2, .int .i64 r2]] w fun e w' => e = .returned (.tuple #[.agg #[.int .i64 (binV op k1 n1 t1 r1 k2 n2 t2 r2).1, .int .u64 (binV op k1 n1 t1 r1 k2 n2 t2 r2).2.1, .string (binV op k1 n1 t1 r1 k2 n2 t2 r2).2.2.1, .int .i64 (binV op k1 n1 t1 r1 k2 n2 t2 r2).2.2.2.1], .string (binV op k1 n1 t1 r1 k2 n2 t2 r2).2.2.2.2]) ∧ Below w.heap.size w w' := by
  have hu := Try.underlying37
  have HR := Aside0.mk hres; clear hres
  have M0 := Aside0.mk ((((Mem.start w).allocAt (g := w.heap.size) rfl #[.int .i64 k1, .int .u64 n1, .string t1, .int .i64 r1] 37).allocAt (g := w.heap.size + 1) (by simp) #[.int .i64 k2, .int .u64 n2, .string t2, .int .i64 r2] 37).allocAt (g := w.heap.size + 1 + 1) (by simp) #[.int .i64 0, .int .u64 0, .string (⟨#[]⟩ : ByteArray), .int .i64 0] 37)
  have za := M0.out.box (.tail _ (.tail _ (.head _))); have zb := M0.out.box (.tail _ (.head _)); have zz := M0.out.box (.head _); have fz := M0.out.free (.head _)
  go_enter Try.func23, Try.ntmps23
  go_wp2_with fail
  repeat (go_quiet (fail); go_wp2_with fail)
  refine (impl_within.calls op 6 9 true _ bw).mono ?_
  rintro e v1 ⟨rfl, hb⟩
  have M1 := Aside0.mk (M0.out.step hb.below); clear hb za zb zz fz M0
  have za := M1.out.box (.tail _ (.tail _ (.head _))); have zb := M1.out.box (.tail _ (.head _)); have zz := M1.out.box (.head _); have fz := M1.out.free (.head _)
  go_wp2
  have M9 := Aside0.mk ((((M1.out.set (A := []) 0 (.int .i64 (0)) rfl).set (A := []) 1 (.int .u64 (0)) rfl).set (A := []) 2 (.string ((⟨#[]⟩ : ByteArray))) rfl).set (A := []) 3 (.int .i64 (0)) rfl)
  refine bodyPost_ret (results_ct rfl _ _ (w.heap.size + 1 + 1) 37 #[.int .i64 (0), .int .u64 (0), .string ((⟨#[]⟩ : ByteArray)), .int .i64 (0)] (0, 0) _ rfl (M9.out.blk (.head _)) Try.underlying37 rfl (by kernel_rfl)) rfl ?_
  exact ⟨by rw [HR.out]; rfl, M9.out.below⟩
set_option maxHeartbeats 8000000 in
set_option maxRecDepth 100000 in
theorem i_type_3o_false (op k1 n1 r1 k2 n2 r2 : Int) (t1 t2 : ByteArray) (w : World) (hn1 : 0 ≤ n1 ∧ n1 < 18446744073709551616) (hn2 : 0 ≤ n2 ∧ n2 < 18446744073709551616) (hs1 : t1.size ≤ 1048576) (hs2 : t2.size ≤ 1048576) (a0 : (k1 == 2) = false) (a2 : (k1 == 3) = true) (a3 : (k2 == 3) = false) (b0 : (op == 10) = false) (b1 : (op == 11) = false) (bw : impl_within.f op 6 9 = some false)
    (hres : binV op k1 n1 t1 r1 k2 n2 t2 r2 = (0, 0, (⟨#[]⟩ : ByteArray), 0, (⟨#[116, 121, 112, 101]⟩ : ByteArray))) :
    Calls Try.prog 23 #[.int .i64 op, .agg #[.int .i64 k1, .int .u64 n1, .string t1, .int .i64 r1], .agg #[.int .i64 k2, .int .u64 n2, .string t2, .int .i64 r2]] w fun e w' => e = .returned (.tuple #[.agg #[.int .i64 (binV op k1 n1 t1 r1 k2 n2 t2 r2).1, .int .u64 (binV op k1 n1 t1 r1 k2 n2 t2 r2).2.1, .string (binV op k1 n1 t1 r1 k2 n2 t2 r2).2.2.1, .int .i64 (binV op k1 n1 t1 r1 k2 n2 t2 r2).2.2.2.1], .string (binV op k1 n1 t1 r1 k2 n2 t2 r2).2.2.2.2]) ∧ Below w.heap.size w w' := by
  have hu := Try.underlying37
  have HR := Aside0.mk hres; clear hres
  have M0 := Aside0.mk ((((Mem.start w).allocAt (g := w.heap.size) rfl #[.int .i64 k1, .int .u64 n1, .string t1, .int .i64 r1] 37).allocAt (g := w.heap.size + 1) (by simp) #[.int .i64 k2, .int .u64 n2, .string t2, .int .i64 r2] 37).allocAt (g := w.heap.size + 1 + 1) (by simp) #[.int .i64 0, .int .u64 0, .string (⟨#[]⟩ : ByteArray), .int .i64 0] 37)
  have za := M0.out.box (.tail _ (.tail _ (.head _))); have zb := M0.out.box (.tail _ (.head _)); have zz := M0.out.box (.head _); have fz := M0.out.free (.head _)
  go_enter Try.func23, Try.ntmps23
  go_wp2_with fail
  repeat (go_quiet (fail); go_wp2_with fail)
  refine (impl_within.calls op 6 9 false _ bw).mono ?_
  rintro e v1 ⟨rfl, hb⟩
  have M1 := Aside0.mk (M0.out.step hb.below); clear hb za zb zz fz M0
  have za := M1.out.box (.tail _ (.tail _ (.head _))); have zb := M1.out.box (.tail _ (.head _)); have zz := M1.out.box (.head _); have fz := M1.out.free (.head _)
  go_wp2
  have M9 := Aside0.mk ((((M1.out.set (A := []) 0 (.int .i64 (0)) rfl).set (A := []) 1 (.int .u64 (0)) rfl).set (A := []) 2 (.string ((⟨#[]⟩ : ByteArray))) rfl).set (A := []) 3 (.int .i64 (0)) rfl)
  refine bodyPost_ret (results_ct rfl _ _ (w.heap.size + 1 + 1) 37 #[.int .i64 (0), .int .u64 (0), .string ((⟨#[]⟩ : ByteArray)), .int .i64 (0)] (0, 0) _ rfl (M9.out.blk (.head _)) Try.underlying37 rfl (by kernel_rfl)) rfl ?_
  exact ⟨by rw [HR.out]; rfl, M9.out.below⟩
set_option maxHeartbeats 8000000 in
set_option maxRecDepth 100000 in
theorem i_type_oo_true (op k1 n1 r1 k2 n2 r2 : Int) (t1 t2 : ByteArray) (w : World) (hn1 : 0 ≤ n1 ∧ n1 < 18446744073709551616) (hn2 : 0 ≤ n2 ∧ n2 < 18446744073709551616) (hs1 : t1.size ≤ 1048576) (hs2 : t2.size ≤ 1048576) (a0 : (k1 == 2) = false) (a2 : (k1 == 3) = false) (b0 : (op == 10) = false) (b1 : (op == 11) = false) (bw : impl_within.f op 6 9 = some true)
    (hres : binV op k1 n1 t1 r1 k2 n2 t2 r2 = (0, 0, (⟨#[]⟩ : ByteArray), 0, (⟨#[116, 121, 112, 101]⟩ : ByteArray))) :
    Calls Try.prog 23 #[.int .i64 op, .agg #[.int .i64 k1, .int .u64 n1, .string t1, .int .i64 r1], .agg #[.int .i64 k2, .int .u64 n2, .string t2, .int .i64 r2]] w fun e w' => e = .returned (.tuple #[.agg #[.int .i64 (binV op k1 n1 t1 r1 k2 n2 t2 r2).1, .int .u64 (binV op k1 n1 t1 r1 k2 n2 t2 r2).2.1, .string (binV op k1 n1 t1 r1 k2 n2 t2 r2).2.2.1, .int .i64 (binV op k1 n1 t1 r1 k2 n2 t2 r2).2.2.2.1], .string (binV op k1 n1 t1 r1 k2 n2 t2 r2).2.2.2.2]) ∧ Below w.heap.size w w' := by
  have hu := Try.underlying37
  have HR := Aside0.mk hres; clear hres
  have M0 := Aside0.mk ((((Mem.start w).allocAt (g := w.heap.size) rfl #[.int .i64 k1, .int .u64 n1, .string t1, .int .i64 r1] 37).allocAt (g := w.heap.size + 1) (by simp) #[.int .i64 k2, .int .u64 n2, .string t2, .int .i64 r2] 37).allocAt (g := w.heap.size + 1 + 1) (by simp) #[.int .i64 0, .int .u64 0, .string (⟨#[]⟩ : ByteArray), .int .i64 0] 37)
  have za := M0.out.box (.tail _ (.tail _ (.head _))); have zb := M0.out.box (.tail _ (.head _)); have zz := M0.out.box (.head _); have fz := M0.out.free (.head _)
  go_enter Try.func23, Try.ntmps23
  go_wp2_with fail
  repeat (go_quiet (fail); go_wp2_with fail)
  refine (impl_within.calls op 6 9 true _ bw).mono ?_
  rintro e v1 ⟨rfl, hb⟩
  have M1 := Aside0.mk (M0.out.step hb.below); clear hb za zb zz fz M0
  have za := M1.out.box (.tail _ (.tail _ (.head _))); have zb := M1.out.box (.tail _ (.head _)); have zz := M1.out.box (.head _); have fz := M1.out.free (.head _)
  go_wp2
  have M9 := Aside0.mk ((((M1.out.set (A := []) 0 (.int .i64 (0)) rfl).set (A := []) 1 (.int .u64 (0)) rfl).set (A := []) 2 (.string ((⟨#[]⟩ : ByteArray))) rfl).set (A := []) 3 (.int .i64 (0)) rfl)
  refine bodyPost_ret (results_ct rfl _ _ (w.heap.size + 1 + 1) 37 #[.int .i64 (0), .int .u64 (0), .string ((⟨#[]⟩ : ByteArray)), .int .i64 (0)] (0, 0) _ rfl (M9.out.blk (.head _)) Try.underlying37 rfl (by kernel_rfl)) rfl ?_
  exact ⟨by rw [HR.out]; rfl, M9.out.below⟩
set_option maxHeartbeats 8000000 in
set_option maxRecDepth 100000 in
theorem i_type_oo_false (op k1 n1 r1 k2 n2 r2 : Int) (t1 t2 : ByteArray) (w : World) (hn1 : 0 ≤ n1 ∧ n1 < 18446744073709551616) (hn2 : 0 ≤ n2 ∧ n2 < 18446744073709551616) (hs1 : t1.size ≤ 1048576) (hs2 : t2.size ≤ 1048576) (a0 : (k1 == 2) = false) (a2 : (k1 == 3) = false) (b0 : (op == 10) = false) (b1 : (op == 11) = false) (bw : impl_within.f op 6 9 = some false)
    (hres : binV op k1 n1 t1 r1 k2 n2 t2 r2 = (0, 0, (⟨#[]⟩ : ByteArray), 0, (⟨#[116, 121, 112, 101]⟩ : ByteArray))) :
    Calls Try.prog 23 #[.int .i64 op, .agg #[.int .i64 k1, .int .u64 n1, .string t1, .int .i64 r1], .agg #[.int .i64 k2, .int .u64 n2, .string t2, .int .i64 r2]] w fun e w' => e = .returned (.tuple #[.agg #[.int .i64 (binV op k1 n1 t1 r1 k2 n2 t2 r2).1, .int .u64 (binV op k1 n1 t1 r1 k2 n2 t2 r2).2.1, .string (binV op k1 n1 t1 r1 k2 n2 t2 r2).2.2.1, .int .i64 (binV op k1 n1 t1 r1 k2 n2 t2 r2).2.2.2.1], .string (binV op k1 n1 t1 r1 k2 n2 t2 r2).2.2.2.2]) ∧ Below w.heap.size w w' := by
  have hu := Try.underlying37
  have HR := Aside0.mk hres; clear hres
  have M0 := Aside0.mk ((((Mem.start w).allocAt (g := w.heap.size) rfl #[.int .i64 k1, .int .u64 n1, .string t1, .int .i64 r1] 37).allocAt (g := w.heap.size + 1) (by simp) #[.int .i64 k2, .int .u64 n2, .string t2, .int .i64 r2] 37).allocAt (g := w.heap.size + 1 + 1) (by simp) #[.int .i64 0, .int .u64 0, .string (⟨#[]⟩ : ByteArray), .int .i64 0] 37)
  have za := M0.out.box (.tail _ (.tail _ (.head _))); have zb := M0.out.box (.tail _ (.head _)); have zz := M0.out.box (.head _); have fz := M0.out.free (.head _)
  go_enter Try.func23, Try.ntmps23
  go_wp2_with fail
  repeat (go_quiet (fail); go_wp2_with fail)
  refine (impl_within.calls op 6 9 false _ bw).mono ?_
  rintro e v1 ⟨rfl, hb⟩
  have M1 := Aside0.mk (M0.out.step hb.below); clear hb za zb zz fz M0
  have za := M1.out.box (.tail _ (.tail _ (.head _))); have zb := M1.out.box (.tail _ (.head _)); have zz := M1.out.box (.head _); have fz := M1.out.free (.head _)
  go_wp2
  have M9 := Aside0.mk ((((M1.out.set (A := []) 0 (.int .i64 (0)) rfl).set (A := []) 1 (.int .u64 (0)) rfl).set (A := []) 2 (.string ((⟨#[]⟩ : ByteArray))) rfl).set (A := []) 3 (.int .i64 (0)) rfl)
  refine bodyPost_ret (results_ct rfl _ _ (w.heap.size + 1 + 1) 37 #[.int .i64 (0), .int .u64 (0), .string ((⟨#[]⟩ : ByteArray)), .int .i64 (0)] (0, 0) _ rfl (M9.out.blk (.head _)) Try.underlying37 rfl (by kernel_rfl)) rfl ?_
  exact ⟨by rw [HR.out]; rfl, M9.out.below⟩
set_option maxHeartbeats 8000000 in
set_option maxRecDepth 100000 in
theorem i_type_33 (op k1 n1 r1 k2 n2 r2 : Int) (t1 t2 : ByteArray) (w : World) (hn1 : 0 ≤ n1 ∧ n1 < 18446744073709551616) (hn2 : 0 ≤ n2 ∧ n2 < 18446744073709551616) (hs1 : t1.size ≤ 1048576) (hs2 : t2.size ≤ 1048576) (a0 : (k1 == 2) = false) (a2 : (k1 == 3) = true) (a3 : (k2 == 3) = true) (b0 : (op == 10) = false) (b1 : (op == 11) = false) (b2 : (op == 1) = false) (bw : impl_within.f op 6 9 = some false)
    (hres : binV op k1 n1 t1 r1 k2 n2 t2 r2 = (0, 0, (⟨#[]⟩ : ByteArray), 0, (⟨#[116, 121, 112, 101]⟩ : ByteArray))) :
    Calls Try.prog 23 #[.int .i64 op, .agg #[.int .i64 k1, .int .u64 n1, .string t1, .int .i64 r1], .agg #[.int .i64 k2, .int .u64 n2, .string t2, .int .i64 r2]] w fun e w' => e = .returned (.tuple #[.agg #[.int .i64 (binV op k1 n1 t1 r1 k2 n2 t2 r2).1, .int .u64 (binV op k1 n1 t1 r1 k2 n2 t2 r2).2.1, .string (binV op k1 n1 t1 r1 k2 n2 t2 r2).2.2.1, .int .i64 (binV op k1 n1 t1 r1 k2 n2 t2 r2).2.2.2.1], .string (binV op k1 n1 t1 r1 k2 n2 t2 r2).2.2.2.2]) ∧ Below w.heap.size w w' := by
  have hu := Try.underlying37
  have HR := Aside0.mk hres; clear hres
  have M0 := Aside0.mk ((((Mem.start w).allocAt (g := w.heap.size) rfl #[.int .i64 k1, .int .u64 n1, .string t1, .int .i64 r1] 37).allocAt (g := w.heap.size + 1) (by simp) #[.int .i64 k2, .int .u64 n2, .string t2, .int .i64 r2] 37).allocAt (g := w.heap.size + 1 + 1) (by simp) #[.int .i64 0, .int .u64 0, .string (⟨#[]⟩ : ByteArray), .int .i64 0] 37)
  have za := M0.out.box (.tail _ (.tail _ (.head _))); have zb := M0.out.box (.tail _ (.head _)); have zz := M0.out.box (.head _); have fz := M0.out.free (.head _)
  go_enter Try.func23, Try.ntmps23
  go_wp2_with fail
  repeat (go_quiet (fail); go_wp2_with fail)
  refine (impl_within.calls op 6 9 false _ bw).mono ?_
  rintro e v1 ⟨rfl, hb⟩
  have M1 := Aside0.mk (M0.out.step hb.below); clear hb za zb zz fz M0
  have za := M1.out.box (.tail _ (.tail _ (.head _))); have zb := M1.out.box (.tail _ (.head _)); have zz := M1.out.box (.head _); have fz := M1.out.free (.head _)
  go_wp2_with fail
  repeat (go_quiet (fail); go_wp2_with fail)
  have M9 := Aside0.mk ((((M1.out.set (A := []) 0 (.int .i64 (0)) rfl).set (A := []) 1 (.int .u64 (0)) rfl).set (A := []) 2 (.string ((⟨#[]⟩ : ByteArray))) rfl).set (A := []) 3 (.int .i64 (0)) rfl)
  refine bodyPost_ret (results_ct rfl _ _ (w.heap.size + 1 + 1) 37 #[.int .i64 (0), .int .u64 (0), .string ((⟨#[]⟩ : ByteArray)), .int .i64 (0)] (0, 0) _ rfl (M9.out.blk (.head _)) Try.underlying37 rfl (by kernel_rfl)) rfl ?_
  exact ⟨by rw [HR.out]; rfl, M9.out.below⟩
set_option maxHeartbeats 8000000 in
set_option maxRecDepth 100000 in
theorem i_in_33 (op k1 n1 r1 k2 n2 r2 : Int) (t1 t2 : ByteArray) (w : World) (hn1 : 0 ≤ n1 ∧ n1 < 18446744073709551616) (hn2 : 0 ≤ n2 ∧ n2 < 18446744073709551616) (hs1 : t1.size ≤ 1048576) (hs2 : t2.size ≤ 1048576) (a0 : (k1 == 2) = false) (a2 : (k1 == 3) = true) (a3 : (k2 == 3) = true) (b0 : (op == 10) = false) (b1 : (op == 11) = false) (bw : impl_within.f op 6 9 = some true)
    (hres : binV op k1 n1 t1 r1 k2 n2 t2 r2 = (1, bn (ordV op (Op.bytesLess t1.toList t2.toList) (t1.toList == t2.toList) (!Op.bytesLess t1.toList t2.toList && !(t1.toList == t2.toList))), (⟨#[]⟩ : ByteArray), 0, (⟨#[]⟩ : ByteArray))) :
    Calls Try.prog 23 #[.int .i64 op, .agg #[.int .i64 k1, .int .u64 n1, .string t1, .int .i64 r1], .agg #[.int .i64 k2, .int .u64 n2, .string t2, .int .i64 r2]] w fun e w' => e = .returned (.tuple #[.agg #[.int .i64 (binV op k1 n1 t1 r1 k2 n2 t2 r2).1, .int .u64 (binV op k1 n1 t1 r1 k2 n2 t2 r2).2.1, .string (binV op k1 n1 t1 r1 k2 n2 t2 r2).2.2.1, .int .i64 (binV op k1 n1 t1 r1 k2 n2 t2 r2).2.2.2.1], .string (binV op k1 n1 t1 r1 k2 n2 t2 r2).2.2.2.2]) ∧ Below w.heap.size w w' := by
  have hu := Try.underlying37
  have HR := Aside0.mk hres; clear hres
  have M0 := Aside0.mk ((((Mem.start w).allocAt (g := w.heap.size) rfl #[.int .i64 k1, .int .u64 n1, .string t1, .int .i64 r1] 37).allocAt (g := w.heap.size + 1) (by simp) #[.int .i64 k2, .int .u64 n2, .string t2, .int .i64 r2] 37).allocAt (g := w.heap.size + 1 + 1) (by simp) #[.int .i64 0, .int .u64 0, .string (⟨#[]⟩ : ByteArray), .int .i64 0] 37)
  have za := M0.out.box (.tail _ (.tail _ (.head _))); have zb := M0.out.box (.tail _ (.head _)); have zz := M0.out.box (.head _); have fz := M0.out.free (.head _)
  go_enter Try.func23, Try.ntmps23
  go_wp2_with fail
  repeat (go_quiet (fail); go_wp2_with fail)
  refine (impl_within.calls op 6 9 true _ bw).mono ?_
  rintro e v1 ⟨rfl, hb⟩
  have M1 := Aside0.mk (M0.out.step hb.below); clear hb za zb zz fz M0
  have za := M1.out.box (.tail _ (.tail _ (.head _))); have zb := M1.out.box (.tail _ (.head _)); have zz := M1.out.box (.head _); have fz := M1.out.free (.head _)
  go_wp2_with fail
  repeat (go_quiet (fail); go_wp2_with fail)
  refine (ordI op _ _ _ _).mono ?_
  rintro e v2 ⟨rfl, hb⟩
  have M2 := Aside0.mk (M1.out.step hb); clear hb za zb zz fz M1
  have za := M2.out.box (.tail _ (.tail _ (.head _))); have zb := M2.out.box (.tail _ (.head _)); have zz := M2.out.box (.head _); have fz := M2.out.free (.head _)
  go_wp2
  have M9 := Aside0.mk ((((M2.out.set (A := []) 0 (.int .i64 (1)) rfl).set (A := []) 1 (.int .u64 (bn (ordV op (Op.bytesLess t1.toList t2.toList) (t1.toList == t2.toList) (!Op.bytesLess t1.toList t2.toList && !(t1.toList == t2.toList))))) rfl).set (A := []) 2 (.string ((⟨#[]⟩ : ByteArray))) rfl).set (A := []) 3 (.int .i64 (0)) rfl)
  refine bodyPost_ret (results_ct rfl _ _ (w.heap.size + 1 + 1) 37 #[.int .i64 (1), .int .u64 (bn (ordV op (Op.bytesLess t1.toList t2.toList) (t1.toList == t2.toList) (!Op.bytesLess t1.toList t2.toList && !(t1.toList == t2.toList)))), .string ((⟨#[]⟩ : ByteArray)), .int .i64 (0)] (0, 0) _ rfl (M9.out.blk (.head _)) Try.underlying37 rfl (by kernel_rfl)) rfl ?_
  exact ⟨by rw [HR.out]; rfl, M9.out.below⟩
set_option maxHeartbeats 8000000 in
set_option maxRecDepth 100000 in
theorem i_long_33 (op k1 n1 r1 k2 n2 r2 : Int) (t1 t2 : ByteArray) (w : World) (hn1 : 0 ≤ n1 ∧ n1 < 18446744073709551616) (hn2 : 0 ≤ n2 ∧ n2 < 18446744073709551616) (hs1 : t1.size ≤ 1048576) (hs2 : t2.size ≤ 1048576) (a0 : (k1 == 2) = false) (a2 : (k1 == 3) = true) (a3 : (k2 == 3) = true) (b0 : (op == 10) = false) (b1 : (op == 11) = false) (b2 : (op == 1) = true) (bw : impl_within.f op 6 9 = some false) (hl : 200 < (t1.size : Int) + (t2.size : Int))
    (hres : binV op k1 n1 t1 r1 k2 n2 t2 r2 = (0, 0, (⟨#[]⟩ : ByteArray), 0, (⟨#[108, 111, 110, 103]⟩ : ByteArray))) :
    Calls Try.prog 23 #[.int .i64 op, .agg #[.int .i64 k1, .int .u64 n1, .string t1, .int .i64 r1], .agg #[.int .i64 k2, .int .u64 n2, .string t2, .int .i64 r2]] w fun e w' => e = .returned (.tuple #[.agg #[.int .i64 (binV op k1 n1 t1 r1 k2 n2 t2 r2).1, .int .u64 (binV op k1 n1 t1 r1 k2 n2 t2 r2).2.1, .string (binV op k1 n1 t1 r1 k2 n2 t2 r2).2.2.1, .int .i64 (binV op k1 n1 t1 r1 k2 n2 t2 r2).2.2.2.1], .string (binV op k1 n1 t1 r1 k2 n2 t2 r2).2.2.2.2]) ∧ Below w.heap.size w w' := by
  have hu := Try.underlying37
  have HR := Aside0.mk hres; clear hres
  have M0 := Aside0.mk ((((Mem.start w).allocAt (g := w.heap.size) rfl #[.int .i64 k1, .int .u64 n1, .string t1, .int .i64 r1] 37).allocAt (g := w.heap.size + 1) (by simp) #[.int .i64 k2, .int .u64 n2, .string t2, .int .i64 r2] 37).allocAt (g := w.heap.size + 1 + 1) (by simp) #[.int .i64 0, .int .u64 0, .string (⟨#[]⟩ : ByteArray), .int .i64 0] 37)
  have za := M0.out.box (.tail _ (.tail _ (.head _))); have zb := M0.out.box (.tail _ (.head _)); have zz := M0.out.box (.head _); have fz := M0.out.free (.head _)
  go_enter Try.func23, Try.ntmps23
  go_wp2_with fail
  repeat (go_quiet (fail); go_wp2_with fail)
  refine (impl_within.calls op 6 9 false _ bw).mono ?_
  rintro e v1 ⟨rfl, hb⟩
  have M1 := Aside0.mk (M0.out.step hb.below); clear hb za zb zz fz M0
  have za := M1.out.box (.tail _ (.tail _ (.head _))); have zb := M1.out.box (.tail _ (.head _)); have zz := M1.out.box (.head _); have fz := M1.out.free (.head _)
  have z2 : (t1.size : Int) ≤ 1048576 := by omega
  have z4 : (t2.size : Int) ≤ 1048576 := by omega
  go_wp2_with fail
  repeat (go_quiet (fail); go_wp2_with fail)
  have M9 := Aside0.mk ((((M1.out.set (A := []) 0 (.int .i64 (0)) rfl).set (A := []) 1 (.int .u64 (0)) rfl).set (A := []) 2 (.string ((⟨#[]⟩ : ByteArray))) rfl).set (A := []) 3 (.int .i64 (0)) rfl)
  refine bodyPost_ret (results_ct rfl _ _ (w.heap.size + 1 + 1) 37 #[.int .i64 (0), .int .u64 (0), .string ((⟨#[]⟩ : ByteArray)), .int .i64 (0)] (0, 0) _ rfl (M9.out.blk (.head _)) Try.underlying37 rfl (by kernel_rfl)) rfl ?_
  exact ⟨by rw [HR.out]; rfl, M9.out.below⟩
set_option maxHeartbeats 8000000 in
set_option maxRecDepth 100000 in
theorem i_cat_33 (op k1 n1 r1 k2 n2 r2 : Int) (t1 t2 : ByteArray) (w : World) (hn1 : 0 ≤ n1 ∧ n1 < 18446744073709551616) (hn2 : 0 ≤ n2 ∧ n2 < 18446744073709551616) (hs1 : t1.size ≤ 1048576) (hs2 : t2.size ≤ 1048576) (a0 : (k1 == 2) = false) (a2 : (k1 == 3) = true) (a3 : (k2 == 3) = true) (b0 : (op == 10) = false) (b1 : (op == 11) = false) (b2 : (op == 1) = true) (bw : impl_within.f op 6 9 = some false) (hl : ¬ 200 < (t1.size : Int) + (t2.size : Int))
    (hres : binV op k1 n1 t1 r1 k2 n2 t2 r2 = (3, 0, t1 ++ t2, 0, (⟨#[]⟩ : ByteArray))) :
    Calls Try.prog 23 #[.int .i64 op, .agg #[.int .i64 k1, .int .u64 n1, .string t1, .int .i64 r1], .agg #[.int .i64 k2, .int .u64 n2, .string t2, .int .i64 r2]] w fun e w' => e = .returned (.tuple #[.agg #[.int .i64 (binV op k1 n1 t1 r1 k2 n2 t2 r2).1, .int .u64 (binV op k1 n1 t1 r1 k2 n2 t2 r2).2.1, .string (binV op k1 n1 t1 r1 k2 n2 t2 r2).2.2.1, .int .i64 (binV op k1 n1 t1 r1 k2 n2 t2 r2).2.2.2.1], .string (binV op k1 n1 t1 r1 k2 n2 t2 r2).2.2.2.2]) ∧ Below w.heap.size w w' := by
  have hu := Try.underlying37
  have HR := Aside0.mk hres; clear hres
  have M0 := Aside0.mk ((((Mem.start w).allocAt (g := w.heap.size) rfl #[.int .i64 k1, .int .u64 n1, .string t1, .int .i64 r1] 37).allocAt (g := w.heap.size + 1) (by simp) #[.int .i64 k2, .int .u64 n2, .string t2, .int .i64 r2] 37).allocAt (g := w.heap.size + 1 + 1) (by simp) #[.int .i64 0, .int .u64 0, .string (⟨#[]⟩ : ByteArray), .int .i64 0] 37)
  have za := M0.out.box (.tail _ (.tail _ (.head _))); have zb := M0.out.box (.tail _ (.head _)); have zz := M0.out.box (.head _); have fz := M0.out.free (.head _)
  go_enter Try.func23, Try.ntmps23
  go_wp2_with fail
  repeat (go_quiet (fail); go_wp2_with fail)
  refine (impl_within.calls op 6 9 false _ bw).mono ?_
  rintro e v1 ⟨rfl, hb⟩
  have M1 := Aside0.mk (M0.out.step hb.below); clear hb za zb zz fz M0
  have za := M1.out.box (.tail _ (.tail _ (.head _))); have zb := M1.out.box (.tail _ (.head _)); have zz := M1.out.box (.head _); have fz := M1.out.free (.head _)
  have z2 : (t1.size : Int) ≤ 1048576 := by omega
  have z4 : (t2.size : Int) ≤ 1048576 := by omega
  go_wp2_with fail
  repeat (go_quiet (fail); go_wp2_with fail)
  refine (textI _ _).mono ?_
  rintro e v2 ⟨rfl, hb⟩
  have M2 := Aside0.mk (M1.out.step hb); clear hb za zb zz fz M1
  have za := M2.out.box (.tail _ (.tail _ (.head _))); have zb := M2.out.box (.tail _ (.head _)); have zz := M2.out.box (.head _); have fz := M2.out.free (.head _)
  go_wp2
  have M9 := Aside0.mk ((((M2.out.set (A := []) 0 (.int .i64 (3)) rfl).set (A := []) 1 (.int .u64 (0)) rfl).set (A := []) 2 (.string (t1 ++ t2)) rfl).set (A := []) 3 (.int .i64 (0)) rfl)
  refine bodyPost_ret (results_ct rfl _ _ (w.heap.size + 1 + 1) 37 #[.int .i64 (3), .int .u64 (0), .string (t1 ++ t2), .int .i64 (0)] (0, 0) _ rfl (M9.out.blk (.head _)) Try.underlying37 rfl (by kernel_rfl)) rfl ?_
  exact ⟨by rw [HR.out]; rfl, M9.out.below⟩
set_option maxHeartbeats 8000000 in
set_option maxRecDepth 100000 in
theorem i_num_ok (op k1 n1 r1 k2 n2 r2 : Int) (t1 t2 : ByteArray) (w : World) (hn1 : 0 ≤ n1 ∧ n1 < 18446744073709551616) (hn2 : 0 ≤ n2 ∧ n2 < 18446744073709551616) (hs1 : t1.size ≤ 1048576) (hs2 : t2.size ≤ 1048576) (a0 : (k1 == 2) = true) (a1 : (k2 == 2) = true) (a2 : (k1 == 3) = false) (a3 : (k2 == 3) = false) (b0 : (op == 10) = false) (b1 : (op == 11) = false) (bw : impl_within.f op 6 9 = some false) (x : Int) (hv : numV op n1 n2 = some x)
    (hres : binV op k1 n1 t1 r1 k2 n2 t2 r2 = (2, x, (⟨#[]⟩ : ByteArray), 0, (⟨#[]⟩ : ByteArray))) :
    Calls Try.prog 23 #[.int .i64 op, .agg #[.int .i64 k1, .int .u64 n1, .string t1, .int .i64 r1], .agg #[.int .i64 k2, .int .u64 n2, .string t2, .int .i64 r2]] w fun e w' => e = .returned (.tuple #[.agg #[.int .i64 (binV op k1 n1 t1 r1 k2 n2 t2 r2).1, .int .u64 (binV op k1 n1 t1 r1 k2 n2 t2 r2).2.1, .string (binV op k1 n1 t1 r1 k2 n2 t2 r2).2.2.1, .int .i64 (binV op k1 n1 t1 r1 k2 n2 t2 r2).2.2.2.1], .string (binV op k1 n1 t1 r1 k2 n2 t2 r2).2.2.2.2]) ∧ Below w.heap.size w w' := by
  have hu := Try.underlying37
  have HR := Aside0.mk hres; clear hres
  have M0 := Aside0.mk ((((Mem.start w).allocAt (g := w.heap.size) rfl #[.int .i64 k1, .int .u64 n1, .string t1, .int .i64 r1] 37).allocAt (g := w.heap.size + 1) (by simp) #[.int .i64 k2, .int .u64 n2, .string t2, .int .i64 r2] 37).allocAt (g := w.heap.size + 1 + 1) (by simp) #[.int .i64 0, .int .u64 0, .string (⟨#[]⟩ : ByteArray), .int .i64 0] 37)
  have za := M0.out.box (.tail _ (.tail _ (.head _))); have zb := M0.out.box (.tail _ (.head _)); have zz := M0.out.box (.head _); have fz := M0.out.free (.head _)
  go_enter Try.func23, Try.ntmps23
  go_wp2_with fail
  repeat (go_quiet (fail); go_wp2_with fail)
  refine (impl_within.calls op 6 9 false _ bw).mono ?_
  rintro e v1 ⟨rfl, hb⟩
  have M1 := Aside0.mk (M0.out.step hb.below); clear hb za zb zz fz M0
  have za := M1.out.box (.tail _ (.tail _ (.head _))); have zb := M1.out.box (.tail _ (.head _)); have zz := M1.out.box (.head _); have fz := M1.out.free (.head _)
  go_wp2_with fail
  repeat (go_quiet (fail); go_wp2_with fail)
  have hr : recV op n1 n2 = (x, true) := by unfold recV; rw [hv]
  have C := fun w => reckonI op n1 n2 hn1 hn2 w
  rw [hr] at C
  have HVV := Aside0.mk hv; clear hv hr
  refine (C _).mono ?_
  rintro e v2 ⟨rfl, hb⟩
  have M2 := Aside0.mk (M1.out.step hb); clear hb za zb zz fz M1
  have za := M2.out.box (.tail _ (.tail _ (.head _))); have zb := M2.out.box (.tail _ (.head _)); have zz := M2.out.box (.head _); have fz := M2.out.free (.head _)
  clear C
  go_wp2_with fail
  repeat (go_quiet (fail); go_wp2_with fail)
  refine (numI _ _).mono ?_
  rintro e v3 ⟨rfl, hb⟩
  have M3 := Aside0.mk (M2.out.step hb); clear hb za zb zz fz M2
  have za := M3.out.box (.tail _ (.tail _ (.head _))); have zb := M3.out.box (.tail _ (.head _)); have zz := M3.out.box (.head _); have fz := M3.out.free (.head _)
  go_wp2
  have M9 := Aside0.mk ((((M3.out.set (A := []) 0 (.int .i64 (2)) rfl).set (A := []) 1 (.int .u64 (x)) rfl).set (A := []) 2 (.string ((⟨#[]⟩ : ByteArray))) rfl).set (A := []) 3 (.int .i64 (0)) rfl)
  refine bodyPost_ret (results_ct rfl _ _ (w.heap.size + 1 + 1) 37 #[.int .i64 (2), .int .u64 (x), .string ((⟨#[]⟩ : ByteArray)), .int .i64 (0)] (0, 0) _ rfl (M9.out.blk (.head _)) Try.underlying37 rfl (by kernel_rfl)) rfl ?_
  exact ⟨by rw [HR.out]; rfl, M9.out.below⟩
set_option maxHeartbeats 8000000 in
set_option maxRecDepth 100000 in
theorem i_num_no (op k1 n1 r1 k2 n2 r2 : Int) (t1 t2 : ByteArray) (w : World) (hn1 : 0 ≤ n1 ∧ n1 < 18446744073709551616) (hn2 : 0 ≤ n2 ∧ n2 < 18446744073709551616) (hs1 : t1.size ≤ 1048576) (hs2 : t2.size ≤ 1048576) (a0 : (k1 == 2) = true) (a1 : (k2 == 2) = true) (a2 : (k1 == 3) = false) (a3 : (k2 == 3) = false) (b0 : (op == 10) = false) (b1 : (op == 11) = false) (bw : impl_within.f op 6 9 = some false) (hv : numV op n1 n2 = none)
    (hres : binV op k1 n1 t1 r1 k2 n2 t2 r2 = (0, 0, (⟨#[]⟩ : ByteArray), 0, (⟨#[116, 121, 112, 101]⟩ : ByteArray))) :
    Calls Try.prog 23 #[.int .i64 op, .agg #[.int .i64 k1, .int .u64 n1, .string t1, .int .i64 r1], .agg #[.int .i64 k2, .int .u64 n2, .string t2, .int .i64 r2]] w fun e w' => e = .returned (.tuple #[.agg #[.int .i64 (binV op k1 n1 t1 r1 k2 n2 t2 r2).1, .int .u64 (binV op k1 n1 t1 r1 k2 n2 t2 r2).2.1, .string (binV op k1 n1 t1 r1 k2 n2 t2 r2).2.2.1, .int .i64 (binV op k1 n1 t1 r1 k2 n2 t2 r2).2.2.2.1], .string (binV op k1 n1 t1 r1 k2 n2 t2 r2).2.2.2.2]) ∧ Below w.heap.size w w' := by
  have hu := Try.underlying37
  have HR := Aside0.mk hres; clear hres
  have M0 := Aside0.mk ((((Mem.start w).allocAt (g := w.heap.size) rfl #[.int .i64 k1, .int .u64 n1, .string t1, .int .i64 r1] 37).allocAt (g := w.heap.size + 1) (by simp) #[.int .i64 k2, .int .u64 n2, .string t2, .int .i64 r2] 37).allocAt (g := w.heap.size + 1 + 1) (by simp) #[.int .i64 0, .int .u64 0, .string (⟨#[]⟩ : ByteArray), .int .i64 0] 37)
  have za := M0.out.box (.tail _ (.tail _ (.head _))); have zb := M0.out.box (.tail _ (.head _)); have zz := M0.out.box (.head _); have fz := M0.out.free (.head _)
  go_enter Try.func23, Try.ntmps23
  go_wp2_with fail
  repeat (go_quiet (fail); go_wp2_with fail)
  refine (impl_within.calls op 6 9 false _ bw).mono ?_
  rintro e v1 ⟨rfl, hb⟩
  have M1 := Aside0.mk (M0.out.step hb.below); clear hb za zb zz fz M0
  have za := M1.out.box (.tail _ (.tail _ (.head _))); have zb := M1.out.box (.tail _ (.head _)); have zz := M1.out.box (.head _); have fz := M1.out.free (.head _)
  go_wp2_with fail
  repeat (go_quiet (fail); go_wp2_with fail)
  have hr : recV op n1 n2 = (0, false) := by unfold recV; rw [hv]
  have C := fun w => reckonI op n1 n2 hn1 hn2 w
  rw [hr] at C
  have HVV := Aside0.mk hv; clear hv hr
  refine (C _).mono ?_
  rintro e v2 ⟨rfl, hb⟩
  have M2 := Aside0.mk (M1.out.step hb); clear hb za zb zz fz M1
  have za := M2.out.box (.tail _ (.tail _ (.head _))); have zb := M2.out.box (.tail _ (.head _)); have zz := M2.out.box (.head _); have fz := M2.out.free (.head _)
  clear C
  go_wp2
  have M9 := Aside0.mk ((((M2.out.set (A := []) 0 (.int .i64 (0)) rfl).set (A := []) 1 (.int .u64 (0)) rfl).set (A := []) 2 (.string ((⟨#[]⟩ : ByteArray))) rfl).set (A := []) 3 (.int .i64 (0)) rfl)
  refine bodyPost_ret (results_ct rfl _ _ (w.heap.size + 1 + 1) 37 #[.int .i64 (0), .int .u64 (0), .string ((⟨#[]⟩ : ByteArray)), .int .i64 (0)] (0, 0) _ rfl (M9.out.blk (.head _)) Try.underlying37 rfl (by kernel_rfl)) rfl ?_
  exact ⟨by rw [HR.out]; rfl, M9.out.below⟩
set_option maxHeartbeats 8000000 in
set_option maxRecDepth 100000 in
theorem i_in_22 (op k1 n1 r1 k2 n2 r2 : Int) (t1 t2 : ByteArray) (w : World) (hn1 : 0 ≤ n1 ∧ n1 < 18446744073709551616) (hn2 : 0 ≤ n2 ∧ n2 < 18446744073709551616) (hs1 : t1.size ≤ 1048576) (hs2 : t2.size ≤ 1048576) (a0 : (k1 == 2) = true) (a1 : (k2 == 2) = true) (a2 : (k1 == 3) = false) (a3 : (k2 == 3) = false) (b0 : (op == 10) = false) (b1 : (op == 11) = false) (bw : impl_within.f op 6 9 = some true)
    (hres : binV op k1 n1 t1 r1 k2 n2 t2 r2 = (1, bn (ordV op (double.order n1.toNat n2.toNat == some .lt) (double.order n1.toNat n2.toNat == some .eq) (double.order n2.toNat n1.toNat == some .lt)), (⟨#[]⟩ : ByteArray), 0, (⟨#[]⟩ : ByteArray))) :
    Calls Try.prog 23 #[.int .i64 op, .agg #[.int .i64 k1, .int .u64 n1, .string t1, .int .i64 r1], .agg #[.int .i64 k2, .int .u64 n2, .string t2, .int .i64 r2]] w fun e w' => e = .returned (.tuple #[.agg #[.int .i64 (binV op k1 n1 t1 r1 k2 n2 t2 r2).1, .int .u64 (binV op k1 n1 t1 r1 k2 n2 t2 r2).2.1, .string (binV op k1 n1 t1 r1 k2 n2 t2 r2).2.2.1, .int .i64 (binV op k1 n1 t1 r1 k2 n2 t2 r2).2.2.2.1], .string (binV op k1 n1 t1 r1 k2 n2 t2 r2).2.2.2.2]) ∧ Below w.heap.size w w' := by
  have hu := Try.underlying37
  have HR := Aside0.mk hres; clear hres
  have M0 := Aside0.mk ((((Mem.start w).allocAt (g := w.heap.size) rfl #[.int .i64 k1, .int .u64 n1, .string t1, .int .i64 r1] 37).allocAt (g := w.heap.size + 1) (by simp) #[.int .i64 k2, .int .u64 n2, .string t2, .int .i64 r2] 37).allocAt (g := w.heap.size + 1 + 1) (by simp) #[.int .i64 0, .int .u64 0, .string (⟨#[]⟩ : ByteArray), .int .i64 0] 37)
  have za := M0.out.box (.tail _ (.tail _ (.head _))); have zb := M0.out.box (.tail _ (.head _)); have zz := M0.out.box (.head _); have fz := M0.out.free (.head _)
  go_enter Try.func23, Try.ntmps23
  go_wp2_with fail
  repeat (go_quiet (fail); go_wp2_with fail)
  refine (impl_within.calls op 6 9 true _ bw).mono ?_
  rintro e v1 ⟨rfl, hb⟩
  have M1 := Aside0.mk (M0.out.step hb.below); clear hb za zb zz fz M0
  have za := M1.out.box (.tail _ (.tail _ (.head _))); have zb := M1.out.box (.tail _ (.head _)); have zz := M1.out.box (.head _); have fz := M1.out.free (.head _)
  go_upto_region 9 with fail
  clear za zb zz fz
  have MD := Aside0.mk M1.out.drew; clear M1
  refine sz 19 (fun W => W.cell? ⟨w.heap.size, 1, none⟩ = some (.int .u64 n1) ∧ W.cell? ⟨w.heap.size + 1, 1, none⟩ = some (.int .u64 n2)) [17] dob.tab9 dob.bits9 ⟨(MD.out.box (.tail _ (.tail _ (.head _))) 1).trans rfl, (MD.out.box (.tail _ (.head _)) 1).trans rfl⟩ (fun HT_ HW_ hHeld => ?_)
  generalize v1.drew = wd at MD hHeld ⊢
  refine pz 0 51 ?_; refine pz 1 52 ?_; refine pz 3 54 ?_; refine pz 6 57 ?_; refine pz 8 59 ?_; refine pz 11 62 ?_; refine pz 13 64 ?_; refine tz 2 53 ?_; refine tz 4 55 ?_; refine tz 7 58 ?_; refine tz 9 60 ?_; refine tz 12 63 ?_; refine tz 14 65 ?_
  refine ez 5 (some 56) (fun K hK => ?_)
  refine gz Try.func51 #[.int .u64 n1, .int .u64 n2] ?_
  refine (less _ _ _).mono ?_; rintro e v ⟨rfl, rfl⟩
  refine ⟨_, rfl, ?_⟩
  refine hK.out _ _ hHeld (fun hHeld => ?_); clear hK K; refine kz (some 56) ?_
  refine ez 10 (some 61) (fun K hK => ?_)
  refine gz Try.func52 #[.int .u64 n1, .int .u64 n2] ?_
  refine (equal _ _ _).mono ?_; rintro e v ⟨rfl, rfl⟩
  refine ⟨_, rfl, ?_⟩
  refine hK.out _ _ hHeld (fun hHeld => ?_); clear hK K; refine kz (some 61) ?_
  refine ez 15 (some 66) (fun K hK => ?_)
  refine gz Try.func51 #[.int .u64 n2, .int .u64 n1] ?_
  refine (less _ _ _).mono ?_; rintro e v ⟨rfl, rfl⟩
  refine ⟨_, rfl, ?_⟩
  refine hK.out _ _ hHeld (fun hHeld => ?_); clear hK K; refine kz (some 66) ?_
  refine ez 16 (some 67) (fun K hK => ?_)
  refine gz Try.func50 #[.int .i64 op, .bool (double.order n1.toNat n2.toNat == some .lt), .bool (double.order n1.toNat n2.toNat == some .eq), .bool (double.order n2.toNat n1.toNat == some .lt)] ?_
  refine (ordI op _ _ _ _).mono ?_; rintro e v9 ⟨rfl, hb⟩
  have MC := Aside0.mk (MD.out.step hb); clear hb MD
  have zz := MC.out.box (.head _); have fz := MC.out.free (.head _)
  refine ⟨_, rfl, ?_⟩
  refine hK.out _ _ ⟨(MC.out.box (.tail _ (.tail _ (.head _))) 1).trans rfl, (MC.out.box (.tail _ (.head _)) 1).trans rfl⟩ (fun hHeld => ?_); clear hK K; refine kz (some 67) ?_
  refine lz 17 none (fun K hK => ?_)
  refine skip_ (w1 := ?_) (by rfl) rfl ?_ ?_
  rotate_left
  · go_simp
    rfl
  refine hK.out _ _ ?_; clear hK K
  refine pz 18 7 ?_
  refine dz ?_
  go_wp2
  have M9 := Aside0.mk ((((MC.out.set (A := []) 0 (.int .i64 (1)) rfl).set (A := []) 1 (.int .u64 (bn (ordV op (double.order n1.toNat n2.toNat == some .lt) (double.order n1.toNat n2.toNat == some .eq) (double.order n2.toNat n1.toNat == some .lt)))) rfl).set (A := []) 2 (.string ((⟨#[]⟩ : ByteArray))) rfl).set (A := []) 3 (.int .i64 (0)) rfl)
  refine bodyPost_ret (results_ct rfl _ _ (w.heap.size + 1 + 1) 37 #[.int .i64 (1), .int .u64 (bn (ordV op (double.order n1.toNat n2.toNat == some .lt) (double.order n1.toNat n2.toNat == some .eq) (double.order n2.toNat n1.toNat == some .lt))), .string ((⟨#[]⟩ : ByteArray)), .int .i64 (0)] (0, 0) _ rfl (M9.out.blk (.head _)) Try.underlying37 rfl (by kernel_rfl)) rfl ?_
  exact ⟨by rw [HR.out]; rfl, M9.out.below⟩
/-- impl.DoBinary. -/
theorem doBinI (op k1 n1 r1 k2 n2 r2 : Int) (t1 t2 : ByteArray) (w : World) (hn1 : 0 ≤ n1 ∧ n1 < 18446744073709551616) (hn2 : 0 ≤ n2 ∧ n2 < 18446744073709551616) (hs1 : t1.size ≤ 1048576) (hs2 : t2.size ≤ 1048576) :
    Calls Try.prog 23 #[.int .i64 op, .agg #[.int .i64 k1, .int .u64 n1, .string t1, .int .i64 r1], .agg #[.int .i64 k2, .int .u64 n2, .string t2, .int .i64 r2]] w fun e w' => e = .returned (.tuple #[.agg #[.int .i64 (binV op k1 n1 t1 r1 k2 n2 t2 r2).1, .int .u64 (binV op k1 n1 t1 r1 k2 n2 t2 r2).2.1, .string (binV op k1 n1 t1 r1 k2 n2 t2 r2).2.2.1, .int .i64 (binV op k1 n1 t1 r1 k2 n2 t2 r2).2.2.2.1], .string (binV op k1 n1 t1 r1 k2 n2 t2 r2).2.2.2.2]) ∧ Below w.heap.size w w' := by
  have wf : ¬ (6 ≤ op ∧ op ≤ 9) → impl_within.f op 6 9 = some false := by
    intro h
    unfold impl_within.f
    by_cases c : op ≥ 6
    · rw [if_pos c, decide_eq_false (by omega)]
    · rw [if_neg c]
  have wt : 6 ≤ op ∧ op ≤ 9 → impl_within.f op 6 9 = some true := by
    intro h
    unfold impl_within.f
    rw [if_pos (by omega), decide_eq_true (by omega)]
  have eqt : ∀ {a b : Int}, a = b → (a == b) = true := fun h => beq_iff_eq.mpr h
  have eqf : ∀ {a b : Int}, ¬ a = b → (a == b) = false := fun h => beq_eq_false_iff_ne.mpr h
  by_cases a : k1 = 2
  · by_cases b : k2 = 2
    · skip
      by_cases o10 : op = 10
      · exact i_same_22 op k1 n1 r1 k2 n2 r2 t1 t2 w hn1 hn2 hs1 hs2 (eqt a) (eqt b) (eqf (by omega)) (eqf (by omega)) (eqt o10) (wf (by omega)) (by unfold binV; rw [if_pos o10]; rfl)
      by_cases o11 : op = 11
      · exact i_other_22 op k1 n1 r1 k2 n2 r2 t1 t2 w hn1 hn2 hs1 hs2 (eqt a) (eqt b) (eqf (by omega)) (eqf (by omega)) (eqf o10) (eqt o11) (wf (by omega)) (by unfold binV; rw [if_neg o10, if_pos o11]; rfl)
      by_cases o6 : 6 ≤ op ∧ op ≤ 9
      · exact i_in_22 op k1 n1 r1 k2 n2 r2 t1 t2 w hn1 hn2 hs1 hs2 (eqt a) (eqt b) (eqf (by omega)) (eqf (by omega)) (eqf o10) (eqf o11) (wt o6) (by unfold binV; rw [if_neg o10, if_neg o11, if_pos ⟨a, b⟩, if_pos o6]; rfl)
      · cases hv : numV op n1 n2 with
        | some x => exact i_num_ok op k1 n1 r1 k2 n2 r2 t1 t2 w hn1 hn2 hs1 hs2 (eqt a) (eqt b) (eqf (by omega)) (eqf (by omega)) (eqf o10) (eqf o11) (wf o6) x hv (by unfold binV; rw [if_neg o10, if_neg o11, if_pos ⟨a, b⟩, if_neg o6, hv])
        | none => exact i_num_no op k1 n1 r1 k2 n2 r2 t1 t2 w hn1 hn2 hs1 hs2 (eqt a) (eqt b) (eqf (by omega)) (eqf (by omega)) (eqf o10) (eqf o11) (wf o6) hv (by unfold binV; rw [if_neg o10, if_neg o11, if_pos ⟨a, b⟩, if_neg o6, hv]; rfl)
    · skip
      by_cases o10 : op = 10
      · exact i_same_2o op k1 n1 r1 k2 n2 r2 t1 t2 w hn1 hn2 hs1 hs2 (eqt a) (eqf b) (eqf (by omega)) (eqt o10) (wf (by omega)) (by unfold binV; rw [if_pos o10]; rfl)
      by_cases o11 : op = 11
      · exact i_other_2o op k1 n1 r1 k2 n2 r2 t1 t2 w hn1 hn2 hs1 hs2 (eqt a) (eqf b) (eqf (by omega)) (eqf o10) (eqt o11) (wf (by omega)) (by unfold binV; rw [if_neg o10, if_pos o11]; rfl)
      by_cases o6 : 6 ≤ op ∧ op ≤ 9
      · exact i_type_2o_true op k1 n1 r1 k2 n2 r2 t1 t2 w hn1 hn2 hs1 hs2 (eqt a) (eqf b) (eqf (by omega)) (eqf o10) (eqf o11) (wt o6) (by unfold binV; rw [if_neg o10, if_neg o11, if_neg (show ¬ (k1 = 2 ∧ k2 = 2) from fun h => b h.2), if_neg (show ¬ (k1 = 3 ∧ k2 = 3) from fun h => by omega)]; rfl)
      · exact i_type_2o_false op k1 n1 r1 k2 n2 r2 t1 t2 w hn1 hn2 hs1 hs2 (eqt a) (eqf b) (eqf (by omega)) (eqf o10) (eqf o11) (wf o6) (by unfold binV; rw [if_neg o10, if_neg o11, if_neg (show ¬ (k1 = 2 ∧ k2 = 2) from fun h => b h.2), if_neg (show ¬ (k1 = 3 ∧ k2 = 3) from fun h => by omega)]; rfl)
  · by_cases a3 : k1 = 3
    · by_cases b : k2 = 3
      · skip
        by_cases o10 : op = 10
        · exact i_same_33 op k1 n1 r1 k2 n2 r2 t1 t2 w hn1 hn2 hs1 hs2 (eqf a) (eqt a3) (eqt b) (eqt o10) (wf (by omega)) (by unfold binV; rw [if_pos o10]; rfl)
        by_cases o11 : op = 11
        · exact i_other_33 op k1 n1 r1 k2 n2 r2 t1 t2 w hn1 hn2 hs1 hs2 (eqf a) (eqt a3) (eqt b) (eqf o10) (eqt o11) (wf (by omega)) (by unfold binV; rw [if_neg o10, if_pos o11]; rfl)
        by_cases o6 : 6 ≤ op ∧ op ≤ 9
        · exact i_in_33 op k1 n1 r1 k2 n2 r2 t1 t2 w hn1 hn2 hs1 hs2 (eqf a) (eqt a3) (eqt b) (eqf o10) (eqf o11) (wt o6) (by unfold binV; rw [if_neg o10, if_neg o11, if_neg (show ¬ (k1 = 2 ∧ k2 = 2) from fun h => a h.1), if_pos ⟨a3, b⟩, if_pos o6]; rfl)
        by_cases o1 : op = 1
        · by_cases hl : 200 < t1.size + t2.size
          · exact i_long_33 op k1 n1 r1 k2 n2 r2 t1 t2 w hn1 hn2 hs1 hs2 (eqf a) (eqt a3) (eqt b) (eqf o10) (eqf o11) (eqt o1) (wf o6) (by omega) (by unfold binV; rw [if_neg o10, if_neg o11, if_neg (show ¬ (k1 = 2 ∧ k2 = 2) from fun h => a h.1), if_pos ⟨a3, b⟩, if_neg o6, if_pos o1, if_pos hl])
          · exact i_cat_33 op k1 n1 r1 k2 n2 r2 t1 t2 w hn1 hn2 hs1 hs2 (eqf a) (eqt a3) (eqt b) (eqf o10) (eqf o11) (eqt o1) (wf o6) (by omega) (by unfold binV; rw [if_neg o10, if_neg o11, if_neg (show ¬ (k1 = 2 ∧ k2 = 2) from fun h => a h.1), if_pos ⟨a3, b⟩, if_neg o6, if_pos o1, if_neg hl])
        · exact i_type_33 op k1 n1 r1 k2 n2 r2 t1 t2 w hn1 hn2 hs1 hs2 (eqf a) (eqt a3) (eqt b) (eqf o10) (eqf o11) (eqf o1) (wf o6) (by unfold binV; rw [if_neg o10, if_neg o11, if_neg (show ¬ (k1 = 2 ∧ k2 = 2) from fun h => a h.1), if_pos ⟨a3, b⟩, if_neg o6, if_neg o1]; rfl)
      · skip
        by_cases o10 : op = 10
        · exact i_same_3o op k1 n1 r1 k2 n2 r2 t1 t2 w hn1 hn2 hs1 hs2 (eqf a) (eqt a3) (eqf b) (eqt o10) (wf (by omega)) (by unfold binV; rw [if_pos o10]; rfl)
        by_cases o11 : op = 11
        · exact i_other_3o op k1 n1 r1 k2 n2 r2 t1 t2 w hn1 hn2 hs1 hs2 (eqf a) (eqt a3) (eqf b) (eqf o10) (eqt o11) (wf (by omega)) (by unfold binV; rw [if_neg o10, if_pos o11]; rfl)
        by_cases o6 : 6 ≤ op ∧ op ≤ 9
        · exact i_type_3o_true op k1 n1 r1 k2 n2 r2 t1 t2 w hn1 hn2 hs1 hs2 (eqf a) (eqt a3) (eqf b) (eqf o10) (eqf o11) (wt o6) (by unfold binV; rw [if_neg o10, if_neg o11, if_neg (show ¬ (k1 = 2 ∧ k2 = 2) from fun h => a h.1), if_neg (show ¬ (k1 = 3 ∧ k2 = 3) from fun h => b h.2)]; rfl)
        · exact i_type_3o_false op k1 n1 r1 k2 n2 r2 t1 t2 w hn1 hn2 hs1 hs2 (eqf a) (eqt a3) (eqf b) (eqf o10) (eqf o11) (wf o6) (by unfold binV; rw [if_neg o10, if_neg o11, if_neg (show ¬ (k1 = 2 ∧ k2 = 2) from fun h => a h.1), if_neg (show ¬ (k1 = 3 ∧ k2 = 3) from fun h => b h.2)]; rfl)
    · skip
      by_cases o10 : op = 10
      · exact i_same_oo op k1 n1 r1 k2 n2 r2 t1 t2 w hn1 hn2 hs1 hs2 (eqf a) (eqf a3) (eqt o10) (wf (by omega)) (by unfold binV; rw [if_pos o10]; rfl)
      by_cases o11 : op = 11
      · exact i_other_oo op k1 n1 r1 k2 n2 r2 t1 t2 w hn1 hn2 hs1 hs2 (eqf a) (eqf a3) (eqf o10) (eqt o11) (wf (by omega)) (by unfold binV; rw [if_neg o10, if_pos o11]; rfl)
      by_cases o6 : 6 ≤ op ∧ op ≤ 9
      · exact i_type_oo_true op k1 n1 r1 k2 n2 r2 t1 t2 w hn1 hn2 hs1 hs2 (eqf a) (eqf a3) (eqf o10) (eqf o11) (wt o6) (by unfold binV; rw [if_neg o10, if_neg o11, if_neg (show ¬ (k1 = 2 ∧ k2 = 2) from fun h => a h.1), if_neg (show ¬ (k1 = 3 ∧ k2 = 3) from fun h => a3 h.1)]; rfl)
      · exact i_type_oo_false op k1 n1 r1 k2 n2 r2 t1 t2 w hn1 hn2 hs1 hs2 (eqf a) (eqf a3) (eqf o10) (eqf o11) (wf o6) (by unfold binV; rw [if_neg o10, if_neg o11, if_neg (show ¬ (k1 = 2 ∧ k2 = 2) from fun h => a h.1), if_neg (show ¬ (k1 = 3 ∧ k2 = 3) from fun h => a3 h.1)]; rfl)
end Go.Proofs.Ytokhgodcamhibaa.Dob
end
section
namespace Go.Proofs.Ytokhgodcamhibaa.QFnExactDoBinary
open Go.RowKit Go.Proofs.YtokhgodcamhibaaW.PrintWords Go.Proofs.YtokhgodcamhibaaW.PrintLast Go.Proofs.YtokhgodcamhibaaW.PrintMore
attribute [local go_sem] max_two min_two max_three min_three max_four min_four run_field34_0 max2_mx min2_mn   -- for this text's walks alone
set_option linter.unusedVariables false
set_option linter.unusedSimpArgs false
def spec_Equal.f (k : Nat) (a0 : Int) (a1 : Int) : Option (Bool) := (spec_l03Nan.f k a0).bind fun t147 => (if t147 = true then (some false) else ((spec_l03Nan.f k a1).bind fun t148 => (if t148 = true then (some false) else ((spec_l03Key.f k a0).bind fun t149 => ((spec_l03Key.f k a1).bind fun t150 => (some (t149 == t150)))))))
theorem spec_Equal.mono : ∀ a0 a1 k, LeO (spec_Equal.f k a0 a1) (spec_Equal.f (k + 1) a0 a1) := by
  intro a0 a1 k
  unfold spec_Equal.f
  repeat' first
      | (with_reducible exact spec_l03Key.mono _ _)
      | (with_reducible exact spec_l03Nan.mono _ _)
      | (with_reducible exact LeO.refl _)
      | (with_reducible exact LeO.none _)
      | (with_reducible refine LeO.ite ?_ ?_)
      | (with_reducible refine LeO.bind ?_ (fun _ => ?_))
      | exact spec_l03Key.mono _ _
      | exact spec_l03Nan.mono _ _
      | exact LeO.none _
      | refine LeO.ite ?_ ?_
      | refine LeO.bind ?_ (fun _ => ?_)
set_option maxHeartbeats 8000000 in
set_option maxRecDepth 100000 in
theorem spec_Equal.calls (k : Nat) (a0 : Int) (a1 : Int) (r : Bool) (w : World) (h : spec_Equal.f k a0 a1 = some r) :
    Calls Try.prog 13 #[.int .u64 a0, .int .u64 a1] w fun e w' => e = .returned (.bool r) ∧ Below w.heap.size w w' := by
  have HB := Aside0.mk (Below.refl w.heap.size w)
  have H : ((spec_l03Nan.f k a0).bind fun t147 => (if t147 = true then (some false) else ((spec_l03Nan.f k a1).bind fun t148 => (if t148 = true then (some false) else ((spec_l03Key.f k a0).bind fun t149 => ((spec_l03Key.f k a1).bind fun t150 => (some (t149 == t150)))))))) = some r := h
  clear h
  replace H := Option.bind_eq_some_iff.mp H
  obtain ⟨t147, A30, H⟩ := H
  replace H : (if t147 = true then (some false) else ((spec_l03Nan.f k a1).bind fun t148 => (if t148 = true then (some false) else ((spec_l03Key.f k a0).bind fun t149 => ((spec_l03Key.f k a1).bind fun t150 => (some (t149 == t150))))))) = some r := H
  have A3 := Aside0.mk A30
  clear A30
  by_cases c4 : t147 = true
  · subst c4
    have H1 : (some false) = some r := by rw [if_pos rfl] at H; exact H
    clear H
    have H := H1
    clear H1
    obtain rfl := Option.some.inj H
    go_enter Try.func13, Try.ntmps13
    go_wp2_with (first | ((with_reducible refine gate_callee (f := 36) rfl ?_); refine goesL_ (some 6) rfl rfl Try.func36 (by kernel_rfl) rfl #[.int .u64 a0] rfl (by (try simp only [List.map_toArray, List.map_cons, List.map_nil]); first | done | rfl | (simp only [List.length_drop, List.length_take]; rfl)) ?_; (with_reducible refine (spec_l03Nan.calls k a0 true _ A3.out).mono ?_); rintro e w5 ⟨rfl, hb⟩; refine ⟨_, rfl, ?_⟩; have n0_ := Aside0.mk (below_step (by repeat (first | (with_reducible first | exact HB.out | apply below_alloc | apply pw_below_drewN | apply below_drew1) | exact HB.out)) hb); clear HB; have HB := n0_; clear n0_; (try clear hb); (try clear hb2); (try clear hk); (try clear hi)))
    go_ret
    exact ⟨by first | rfl | (simp; done) | (simp [errW_none, errW_some] <;> rfl) | (simp [*, errW_none, errW_some] <;> rfl) | (simp [bne, List.isEmpty_iff]; done) | (rw [Bool.eq_iff_iff]; simp), by repeat (first | (with_reducible first | exact HB.out | apply below_alloc | apply pw_below_drewN | apply below_drew1) | exact HB.out)⟩
  · replace c4 := Bool.eq_false_iff.mpr c4
    subst c4
    have H1 : ((spec_l03Nan.f k a1).bind fun t148 => (if t148 = true then (some false) else ((spec_l03Key.f k a0).bind fun t149 => ((spec_l03Key.f k a1).bind fun t150 => (some (t149 == t150)))))) = some r := by rw [if_neg (show ¬ (false = true) by decide)] at H; exact H
    clear H
    have H := H1
    clear H1
    replace H := Option.bind_eq_some_iff.mp H
    obtain ⟨t148, A60, H⟩ := H
    replace H : (if t148 = true then (some false) else ((spec_l03Key.f k a0).bind fun t149 => ((spec_l03Key.f k a1).bind fun t150 => (some (t149 == t150))))) = some r := H
    have A6 := Aside0.mk A60
    clear A60
    by_cases c7 : t148 = true
    · subst c7
      have H1 : (some false) = some r := by rw [if_pos rfl] at H; exact H
      clear H
      have H := H1
      clear H1
      obtain rfl := Option.some.inj H
      go_enter Try.func13, Try.ntmps13
      go_wp2_with (first | ((with_reducible refine gate_callee (f := 36) rfl ?_); refine goesL_ (some 6) rfl rfl Try.func36 (by kernel_rfl) rfl #[.int .u64 a0] rfl (by (try simp only [List.map_toArray, List.map_cons, List.map_nil]); first | done | rfl | (simp only [List.length_drop, List.length_take]; rfl)) ?_; (with_reducible refine (spec_l03Nan.calls k a0 false _ A3.out).mono ?_); rintro e w8 ⟨rfl, hb⟩; refine ⟨_, rfl, ?_⟩; have n0_ := Aside0.mk (below_step (by repeat (first | (with_reducible first | exact HB.out | apply below_alloc | apply pw_below_drewN | apply below_drew1) | exact HB.out)) hb); clear HB; have HB := n0_; clear n0_; (try clear hb); (try clear hb2); (try clear hk); (try clear hi)) | (go_at_call 36; (with_reducible refine (spec_l03Nan.calls k a1 true _ A6.out).mono ?_); rintro e w9 ⟨rfl, hb⟩; have n0_ := Aside0.mk (below_step (by repeat (first | (with_reducible first | exact HB.out | apply below_alloc | apply pw_below_drewN | apply below_drew1) | exact HB.out)) hb); clear HB; have HB := n0_; clear n0_; (try clear hb); (try clear hb2); (try clear hk); (try clear hi)))
      go_ret
      exact ⟨by first | rfl | (simp; done) | (simp [errW_none, errW_some] <;> rfl) | (simp [*, errW_none, errW_some] <;> rfl) | (simp [bne, List.isEmpty_iff]; done) | (rw [Bool.eq_iff_iff]; simp), by repeat (first | (with_reducible first | exact HB.out | apply below_alloc | apply pw_below_drewN | apply below_drew1) | exact HB.out)⟩
    · replace c7 := Bool.eq_false_iff.mpr c7
      subst c7
      have H1 : ((spec_l03Key.f k a0).bind fun t149 => ((spec_l03Key.f k a1).bind fun t150 => (some (t149 == t150)))) = some r := by rw [if_neg (show ¬ (false = true) by decide)] at H; exact H
      clear H
      have H := H1
      clear H1
      replace H := Option.bind_eq_some_iff.mp H
      obtain ⟨t149, A100, H⟩ := H
      replace H : ((spec_l03Key.f k a1).bind fun t150 => (some (t149 == t150))) = some r := H
      have A10 := Aside0.mk A100
      clear A100
      replace H := Option.bind_eq_some_iff.mp H
      obtain ⟨t150, A110, H⟩ := H
      replace H : (some (t149 == t150)) = some r := H
      have A11 := Aside0.mk A110
      clear A110
      obtain rfl := Option.some.inj H
      go_enter Try.func13, Try.ntmps13
      go_wp2_with (first | ((with_reducible refine gate_callee (f := 36) rfl ?_); refine goesL_ (some 6) rfl rfl Try.func36 (by kernel_rfl) rfl #[.int .u64 a0] rfl (by (try simp only [List.map_toArray, List.map_cons, List.map_nil]); first | done | rfl | (simp only [List.length_drop, List.length_take]; rfl)) ?_; (with_reducible refine (spec_l03Nan.calls k a0 false _ A3.out).mono ?_); rintro e w12 ⟨rfl, hb⟩; refine ⟨_, rfl, ?_⟩; have n0_ := Aside0.mk (below_step (by repeat (first | (with_reducible first | exact HB.out | apply below_alloc | apply pw_below_drewN | apply below_drew1) | exact HB.out)) hb); clear HB; have HB := n0_; clear n0_; (try clear hb); (try clear hb2); (try clear hk); (try clear hi)) | (go_at_call 36; (with_reducible refine (spec_l03Nan.calls k a1 false _ A6.out).mono ?_); rintro e w13 ⟨rfl, hb⟩; have n0_ := Aside0.mk (below_step (by repeat (first | (with_reducible first | exact HB.out | apply below_alloc | apply pw_below_drewN | apply below_drew1) | exact HB.out)) hb); clear HB; have HB := n0_; clear n0_; (try clear hb); (try clear hb2); (try clear hk); (try clear hi)) | (go_at_call 38; (with_reducible refine (spec_l03Key.calls k a0 t149 _ A10.out).mono ?_); rintro e w' ⟨rfl, ⟨nd, rfl⟩⟩) | (go_at_call 38; (with_reducible refine (spec_l03Key.calls k a1 t150 _ A11.out).mono ?_); rintro e w' ⟨rfl, ⟨nd, rfl⟩⟩))
      go_ret
      exact ⟨by first | rfl | (simp; done) | (simp [errW_none, errW_some] <;> rfl) | (simp [*, errW_none, errW_some] <;> rfl) | (simp [bne, List.isEmpty_iff]; done) | (rw [Bool.eq_iff_iff]; simp), by repeat (first | (with_reducible first | exact HB.out | apply below_alloc | apply pw_below_drewN | apply below_drew1) | exact HB.out)⟩
def spec_l03Sign.f (k : Nat) (a0 : Int) (a1 : Bool) : Option (Int) := if a1 = true then ((spec_l03Pow.f k 63).bind fun t151 => (some (IntKind.u64.wrap (a0 + t151)))) else (some a0)
theorem spec_l03Sign.mono : ∀ a0 a1 k, LeO (spec_l03Sign.f k a0 a1) (spec_l03Sign.f (k + 1) a0 a1) := by
  intro a0 a1 k
  unfold spec_l03Sign.f
  repeat' first
      | (with_reducible exact spec_l03Pow.mono _ _)
      | (with_reducible exact LeO.refl _)
      | (with_reducible exact LeO.none _)
      | (with_reducible refine LeO.ite ?_ ?_)
      | (with_reducible refine LeO.bind ?_ (fun _ => ?_))
      | exact spec_l03Pow.mono _ _
      | exact LeO.none _
      | refine LeO.ite ?_ ?_
      | refine LeO.bind ?_ (fun _ => ?_)
set_option maxHeartbeats 8000000 in
set_option maxRecDepth 100000 in
theorem spec_l03Sign.calls (k : Nat) (a0 : Int) (a1 : Bool) (r : Int) (w : World) (h : spec_l03Sign.f k a0 a1 = some r) :
    Calls Try.prog 43 #[.int .u64 a0, .bool a1] w fun e w' => e = .returned (.int .u64 r) ∧ Drawn0 w w' := by
  have H : (if a1 = true then ((spec_l03Pow.f k 63).bind fun t151 => (some (IntKind.u64.wrap (a0 + t151)))) else (some a0)) = some r := h
  clear h
  by_cases c3 : a1 = true
  · subst c3
    have H1 : ((spec_l03Pow.f k 63).bind fun t151 => (some (IntKind.u64.wrap (a0 + t151)))) = some r := by rw [if_pos rfl] at H; exact H
    clear H
    have H := H1
    clear H1
    replace H := Option.bind_eq_some_iff.mp H
    obtain ⟨t151, A40, H⟩ := H
    replace H : (some (IntKind.u64.wrap (a0 + t151))) = some r := H
    have A4 := Aside0.mk A40
    clear A40
    obtain rfl := Option.some.inj H
    go_enter Try.func43, Try.ntmps43
    go_wp2_with (first | ((with_reducible refine gate_callee (f := 37) rfl ?_); refine goesL_ (some 7) rfl rfl Try.func37 (by kernel_rfl) rfl #[.int .i64 63] rfl (by (try simp only [List.map_toArray, List.map_cons, List.map_nil]); first | done | rfl | (simp only [List.length_drop, List.length_take]; rfl)) ?_; (with_reducible refine (spec_l03Pow.calls k 63 t151 _ A4.out).mono ?_); rintro e w' ⟨rfl, ⟨nd, rfl⟩⟩; refine ⟨_, rfl, ?_⟩))
    go_ret
    exact ⟨by first | rfl | (simp; done) | (simp [*]; done), by repeat (first | exact Drawn0.refl _ | apply Drawn0.step)⟩
  · replace c3 := Bool.eq_false_iff.mpr c3
    subst c3
    have H1 : (some a0) = some r := by rw [if_neg (show ¬ (false = true) by decide)] at H; exact H
    clear H
    have H := H1
    clear H1
    obtain rfl := Option.some.inj H
    go_enter Try.func43, Try.ntmps43
    go_wp2
    go_ret
    exact ⟨by first | rfl | (simp; done) | (simp [*]; done), by repeat (first | exact Drawn0.refl _ | apply Drawn0.step)⟩
end Go.Proofs.Ytokhgodcamhibaa.QFnExactDoBinary
end
section
namespace Go.Proofs.Ytokhgodcamhibaa.QFnExactDoBinary
open Go.RowKit Go.Proofs.YtokhgodcamhibaaW.PrintWords Go.Proofs.YtokhgodcamhibaaW.PrintLast Go.Proofs.YtokhgodcamhibaaW.PrintMore
attribute [local go_sem] max_two min_two max_three min_three max_four min_four run_field34_0 max2_mx min2_mn   -- for this text's walks alone
set_option linter.unusedVariables false
set_option linter.unusedSimpArgs false
mutual
def spec_RoundTo.j0 : Nat → Bool → Int → Int → Bool → Option (Int)
  | 0, _, _, _, _ => none
  | k + 1, x0, x1, x2, x3 => if x2 < (-5000) then (spec_RoundTo.j1 k x0 x1 (-5000) x3) else (spec_RoundTo.j1 k x0 x1 x2 x3)
def spec_RoundTo.j1 : Nat → Bool → Int → Int → Bool → Option (Int)
  | 0, _, _, _, _ => none
  | k + 1, x0, x1, x2, x3 => if x3 = true then ((spec_l03Pow.f k 56).bind fun t152 => (spec_RoundTo.j2 k x0 x1 x2 (decide (x1 ≥ t152)))) else (spec_RoundTo.j2 k x0 x1 x2 false)
def spec_RoundTo.j2 : Nat → Bool → Int → Int → Bool → Option (Int)
  | 0, _, _, _, _ => none
  | k + 1, x0, x1, x2, x9 => if x1 = 0 then ((spec_l03Sign.f k 0 x0).bind fun t153 => (some t153)) else (spec_RoundTo.l0 k x0 x1 x2 x9)
def spec_RoundTo.j4 : Nat → Bool → Int → Int → Bool → Option (Int)
  | 0, _, _, _, _ => none
  | k + 1, x0, x1, x2, x9 => spec_RoundTo.l1 k x0 x1 x2 false x9
def spec_RoundTo.l1 : Nat → Bool → Int → Int → Bool → Bool → Option (Int)
  | 0, _, _, _, _, _ => none
  | k + 1, x0, x1, x2, x10, x11 => if x1 ≥ 9007199254740992 then (spec_RoundTo.j6 k x0 x1 x2 x10 x11 true) else (spec_RoundTo.j6 k x0 x1 x2 x10 x11 (decide (x2 < (-1074))))
def spec_RoundTo.j6 : Nat → Bool → Int → Int → Bool → Bool → Bool → Option (Int)
  | 0, _, _, _, _, _, _ => none
  | k + 1, x0, x1, x2, x10, x11, x42 => if x42 = true then (if x11 = true then (if (IntKind.u64.wrap (Int.tdiv x1 2)) = 0 then (if (wrap64 (x2 + 1)) < (-1074) then (spec_RoundTo.l1 k x0 (IntKind.u64.wrap (Int.tdiv x1 2)) (-1074) false true) else (spec_RoundTo.l1 k x0 (IntKind.u64.wrap (Int.tdiv x1 2)) (wrap64 (x2 + 1)) ((Int.tmod x1 2) == 1) true)) else (spec_RoundTo.l1 k x0 (IntKind.u64.wrap (Int.tdiv x1 2)) (wrap64 (x2 + 1)) ((Int.tmod x1 2) == 1) true)) else (if (IntKind.u64.wrap (Int.tdiv x1 2)) = 0 then (if (wrap64 (x2 + 1)) < (-1074) then (if x10 = true then (spec_RoundTo.l1 k x0 (IntKind.u64.wrap (Int.tdiv x1 2)) (-1074) false true) else (spec_RoundTo.l1 k x0 (IntKind.u64.wrap (Int.tdiv x1 2)) (-1074) false ((Int.tmod x1 2) == 1))) else (spec_RoundTo.l1 k x0 (IntKind.u64.wrap (Int.tdiv x1 2)) (wrap64 (x2 + 1)) ((Int.tmod x1 2) == 1) x10)) else (spec_RoundTo.l1 k x0 (IntKind.u64.wrap (Int.tdiv x1 2)) (wrap64 (x2 + 1)) ((Int.tmod x1 2) == 1) x10))) else (if x10 = true then (if x11 = true then (spec_RoundTo.j7 k x0 x1 x2 true) else (spec_RoundTo.j7 k x0 x1 x2 ((Int.tmod x1 2) == 1))) else (spec_RoundTo.j7 k x0 x1 x2 false))
def spec_RoundTo.j7 : Nat → Bool → Int → Int → Bool → Option (Int)
  | 0, _, _, _, _ => none
  | k + 1, x0, x1, x2, x72 => if x72 = true then (spec_RoundTo.j8 k x0 (IntKind.u64.wrap (x1 + 1)) x2) else (spec_RoundTo.j8 k x0 x1 x2)
def spec_RoundTo.j8 : Nat → Bool → Int → Int → Option (Int)
  | 0, _, _, _ => none
  | k + 1, x0, x1, x2 => if x1 = 9007199254740992 then (spec_RoundTo.j9 k x0 4503599627370496 (wrap64 (x2 + 1))) else (spec_RoundTo.j9 k x0 x1 x2)
def spec_RoundTo.j9 : Nat → Bool → Int → Int → Option (Int)
  | 0, _, _, _ => none
  | k + 1, x0, x1, x2 => if x1 < 4503599627370496 then ((spec_l03Sign.f k x1 x0).bind fun t154 => (some t154)) else (if x2 > 971 then ((spec_l03Sign.f k 9218868437227405312 x0).bind fun t155 => (some t155)) else ((spec_l03Sign.f k (IntKind.u64.wrap ((IntKind.u64.wrap (x1 - 4503599627370496)) + (IntKind.u64.wrap ((IntKind.u64.wrap (wrap64 (x2 + 1075))) * 4503599627370496)))) x0).bind fun t156 => (some t156)))
def spec_RoundTo.l0 : Nat → Bool → Int → Int → Bool → Option (Int)
  | 0, _, _, _, _ => none
  | k + 1, x0, x1, x2, x9 => if x1 < 4503599627370496 then (if x2 > (-1074) then (spec_RoundTo.l0 k x0 (IntKind.u64.wrap (x1 * 2)) (wrap64 (x2 - 1)) x9) else (spec_RoundTo.j4 k x0 x1 x2 x9)) else (spec_RoundTo.j4 k x0 x1 x2 x9)
end
def spec_RoundTo.f (k : Nat) (a0 : Bool) (a1 : Int) (a2 : Int) (a3 : Bool) : Option (Int) := if a2 > 5000 then (spec_RoundTo.j0 k a0 a1 5000 a3) else (spec_RoundTo.j0 k a0 a1 a2 a3)
theorem spec_RoundTo.mono_l : ∀ k, (∀ y0 y1 y2 y3, LeO (spec_RoundTo.j0 k y0 y1 y2 y3) (spec_RoundTo.j0 (k + 1) y0 y1 y2 y3)) ∧ (∀ y0 y1 y2 y3, LeO (spec_RoundTo.j1 k y0 y1 y2 y3) (spec_RoundTo.j1 (k + 1) y0 y1 y2 y3)) ∧ (∀ y0 y1 y2 y3, LeO (spec_RoundTo.j2 k y0 y1 y2 y3) (spec_RoundTo.j2 (k + 1) y0 y1 y2 y3)) ∧ (∀ y0 y1 y2 y3, LeO (spec_RoundTo.j4 k y0 y1 y2 y3) (spec_RoundTo.j4 (k + 1) y0 y1 y2 y3)) ∧ (∀ y0 y1 y2 y3 y4, LeO (spec_RoundTo.l1 k y0 y1 y2 y3 y4) (spec_RoundTo.l1 (k + 1) y0 y1 y2 y3 y4)) ∧ (∀ y0 y1 y2 y3 y4 y5, LeO (spec_RoundTo.j6 k y0 y1 y2 y3 y4 y5) (spec_RoundTo.j6 (k + 1) y0 y1 y2 y3 y4 y5)) ∧ (∀ y0 y1 y2 y3, LeO (spec_RoundTo.j7 k y0 y1 y2 y3) (spec_RoundTo.j7 (k + 1) y0 y1 y2 y3)) ∧ (∀ y0 y1 y2, LeO (spec_RoundTo.j8 k y0 y1 y2) (spec_RoundTo.j8 (k + 1) y0 y1 y2)) ∧ (∀ y0 y1 y2, LeO (spec_RoundTo.j9 k y0 y1 y2) (spec_RoundTo.j9 (k + 1) y0 y1 y2)) ∧ (∀ y0 y1 y2 y3, LeO (spec_RoundTo.l0 k y0 y1 y2 y3) (spec_RoundTo.l0 (k + 1) y0 y1 y2 y3))
  | 0 => ⟨fun _ _ _ _ r h => by simp [spec_RoundTo.j0] at h, fun _ _ _ _ r h => by simp [spec_RoundTo.j1] at h, fun _ _ _ _ r h => by simp [spec_RoundTo.j2] at h, fun _ _ _ _ r h => by simp [spec_RoundTo.j4] at h, fun _ _ _ _ _ r h => by simp [spec_RoundTo.l1] at h, fun _ _ _ _ _ _ r h => by simp [spec_RoundTo.j6] at h, fun _ _ _ _ r h => by simp [spec_RoundTo.j7] at h, fun _ _ _ r h => by simp [spec_RoundTo.j8] at h, fun _ _ _ r h => by simp [spec_RoundTo.j9] at h, fun _ _ _ _ r h => by simp [spec_RoundTo.l0] at h⟩
  | k + 1 => by
    obtain ⟨ih0, ih1, ih2, ih3, ih4, ih5, ih6, ih7, ih8, ih9⟩ := spec_RoundTo.mono_l k
    refine ⟨?_, ?_, ?_, ?_, ?_, ?_, ?_, ?_, ?_, ?_⟩
    · intro y0 y1 y2 y3
      unfold spec_RoundTo.j0
      repeat' first
      | (with_reducible exact ih0 _ _ _ _)
      | (with_reducible exact ih1 _ _ _ _)
      | (with_reducible exact ih2 _ _ _ _)
      | (with_reducible exact ih3 _ _ _ _)
      | (with_reducible exact ih4 _ _ _ _ _)
      | (with_reducible exact ih5 _ _ _ _ _ _)
      | (with_reducible exact ih6 _ _ _ _)
      | (with_reducible exact ih7 _ _ _)
      | (with_reducible exact ih8 _ _ _)
      | (with_reducible exact ih9 _ _ _ _)
      | (with_reducible exact spec_l03Pow.mono _ _)
      | (with_reducible exact spec_l03Sign.mono _ _ _)
      | (with_reducible exact LeO.refl _)
      | (with_reducible exact LeO.none _)
      | (with_reducible refine LeO.ite ?_ ?_)
      | (with_reducible refine LeO.bind ?_ (fun _ => ?_))
      | exact ih0 _ _ _ _
      | exact ih1 _ _ _ _
      | exact ih2 _ _ _ _
      | exact ih3 _ _ _ _
      | exact ih4 _ _ _ _ _
      | exact ih5 _ _ _ _ _ _
      | exact ih6 _ _ _ _
      | exact ih7 _ _ _
      | exact ih8 _ _ _
      | exact ih9 _ _ _ _
      | exact spec_l03Pow.mono _ _
      | exact spec_l03Sign.mono _ _ _
      | exact LeO.none _
      | refine LeO.ite ?_ ?_
      | refine LeO.bind ?_ (fun _ => ?_)
    · intro y0 y1 y2 y3
      unfold spec_RoundTo.j1
      repeat' first
      | (with_reducible exact ih0 _ _ _ _)
      | (with_reducible exact ih1 _ _ _ _)
      | (with_reducible exact ih2 _ _ _ _)
      | (with_reducible exact ih3 _ _ _ _)
      | (with_reducible exact ih4 _ _ _ _ _)
      | (with_reducible exact ih5 _ _ _ _ _ _)
      | (with_reducible exact ih6 _ _ _ _)
      | (with_reducible exact ih7 _ _ _)
      | (with_reducible exact ih8 _ _ _)
      | (with_reducible exact ih9 _ _ _ _)
      | (with_reducible exact spec_l03Pow.mono _ _)
      | (with_reducible exact spec_l03Sign.mono _ _ _)
      | (with_reducible exact LeO.refl _)
      | (with_reducible exact LeO.none _)
      | (with_reducible refine LeO.ite ?_ ?_)
      | (with_reducible refine LeO.bind ?_ (fun _ => ?_))
      | exact ih0 _ _ _ _
      | exact ih1 _ _ _ _
      | exact ih2 _ _ _ _
      | exact ih3 _ _ _ _
      | exact ih4 _ _ _ _ _
      | exact ih5 _ _ _ _ _ _
      | exact ih6 _ _ _ _
      | exact ih7 _ _ _
      | exact ih8 _ _ _
      | exact ih9 _ _ _ _
      | exact spec_l03Pow.mono _ _
      | exact spec_l03Sign.mono _ _ _
      | exact LeO.none _
      | refine LeO.ite ?_ ?_
      | refine LeO.bind ?_ (fun _ => ?_)
    · intro y0 y1 y2 y3
      unfold spec_RoundTo.j2
      repeat' first
      | (with_reducible exact ih0 _ _ _ _)
      | (with_reducible exact ih1 _ _ _ _)
      | (with_reducible exact ih2 _ _ _ _)
      | (with_reducible exact ih3 _ _ _ _)
      | (with_reducible exact ih4 _ _ _ _ _)
      | (with_reducible exact ih5 _ _ _ _ _ _)
      | (with_reducible exact ih6 _ _ _ _)
      | (with_reducible exact ih7 _ _ _)
      | (with_reducible exact ih8 _ _ _)
      | (with_reducible exact ih9 _ _ _ _)
      | (with_reducible exact spec_l03Pow.mono _ _)
      | (with_reducible exact spec_l03Sign.mono _ _ _)
      | (with_reducible exact LeO.refl _)
      | (with_reducible exact LeO.none _)
      | (with_reducible refine LeO.ite ?_ ?_)
      | (with_reducible refine LeO.bind ?_ (fun _ => ?_))
      | exact ih0 _ _ _ _
      | exact ih1 _ _ _ _
      | exact ih2 _ _ _ _
      | exact ih3 _ _ _ _
      | exact ih4 _ _ _ _ _
      | exact ih5 _ _ _ _ _ _
      | exact ih6 _ _ _ _
      | exact ih7 _ _ _
      | exact ih8 _ _ _
      | exact ih9 _ _ _ _
      | exact spec_l03Pow.mono _ _
      | exact spec_l03Sign.mono _ _ _
      | exact LeO.none _
      | refine LeO.ite ?_ ?_
      | refine LeO.bind ?_ (fun _ => ?_)
    · intro y0 y1 y2 y3
      unfold spec_RoundTo.j4
      repeat' first
      | (with_reducible exact ih0 _ _ _ _)
      | (with_reducible exact ih1 _ _ _ _)
      | (with_reducible exact ih2 _ _ _ _)
      | (with_reducible exact ih3 _ _ _ _)
      | (with_reducible exact ih4 _ _ _ _ _)
      | (with_reducible exact ih5 _ _ _ _ _ _)
      | (with_reducible exact ih6 _ _ _ _)
      | (with_reducible exact ih7 _ _ _)
      | (with_reducible exact ih8 _ _ _)
      | (with_reducible exact ih9 _ _ _ _)
      | (with_reducible exact spec_l03Pow.mono _ _)
      | (with_reducible exact spec_l03Sign.mono _ _ _)
      | (with_reducible exact LeO.refl _)
      | (with_reducible exact LeO.none _)
      | (with_reducible refine LeO.ite ?_ ?_)
      | (with_reducible refine LeO.bind ?_ (fun _ => ?_))
      | exact ih0 _ _ _ _
      | exact ih1 _ _ _ _
      | exact ih2 _ _ _ _
      | exact ih3 _ _ _ _
      | exact ih4 _ _ _ _ _
      | exact ih5 _ _ _ _ _ _
      | exact ih6 _ _ _ _
      | exact ih7 _ _ _
      | exact ih8 _ _ _
      | exact ih9 _ _ _ _
      | exact spec_l03Pow.mono _ _
      | exact spec_l03Sign.mono _ _ _
      | exact LeO.none _
      | refine LeO.ite ?_ ?_
      | refine LeO.bind ?_ (fun _ => ?_)
    · intro y0 y1 y2 y3 y4
      unfold spec_RoundTo.l1
      repeat' first
      | (with_reducible exact ih0 _ _ _ _)
      | (with_reducible exact ih1 _ _ _ _)
      | (with_reducible exact ih2 _ _ _ _)
      | (with_reducible exact ih3 _ _ _ _)
      | (with_reducible exact ih4 _ _ _ _ _)
      | (with_reducible exact ih5 _ _ _ _ _ _)
      | (with_reducible exact ih6 _ _ _ _)
      | (with_reducible exact ih7 _ _ _)
      | (with_reducible exact ih8 _ _ _)
      | (with_reducible exact ih9 _ _ _ _)
      | (with_reducible exact spec_l03Pow.mono _ _)
      | (with_reducible exact spec_l03Sign.mono _ _ _)
      | (with_reducible exact LeO.refl _)
      | (with_reducible exact LeO.none _)
      | (with_reducible refine LeO.ite ?_ ?_)
      | (with_reducible refine LeO.bind ?_ (fun _ => ?_))
      | exact ih0 _ _ _ _
      | exact ih1 _ _ _ _
      | exact ih2 _ _ _ _
      | exact ih3 _ _ _ _
      | exact ih4 _ _ _ _ _
      | exact ih5 _ _ _ _ _ _
      | exact ih6 _ _ _ _
      | exact ih7 _ _ _
      | exact ih8 _ _ _
      | exact ih9 _ _ _ _
      | exact spec_l03Pow.mono _ _
      | exact spec_l03Sign.mono _ _ _
      | exact LeO.none _
      | refine LeO.ite ?_ ?_
      | refine LeO.bind ?_ (fun _ => ?_)
    · intro y0 y1 y2 y3 y4 y5
      unfold spec_RoundTo.j6
      repeat' first
      | (with_reducible exact ih0 _ _ _ _)
      | (with_reducible exact ih1 _ _ _ _)
      | (with_reducible exact ih2 _ _ _ _)
      | (with_reducible exact ih3 _ _ _ _)
      | (with_reducible exact ih4 _ _ _ _ _)
      | (with_reducible exact ih5 _ _ _ _ _ _)
      | (with_reducible exact ih6 _ _ _ _)
      | (with_reducible exact ih7 _ _ _)
      | (with_reducible exact ih8 _ _ _)
      | (with_reducible exact ih9 _ _ _ _)
      | (with_reducible exact spec_l03Pow.mono _ _)
      | (with_reducible exact spec_l03Sign.mono _ _ _)
      | (with_reducible exact LeO.refl _)
      | (with_reducible exact LeO.none _)
      | (with_reducible refine LeO.ite ?_ ?_)
      | (with_reducible refine LeO.bind ?_ (fun _ => ?_))
      | exact ih0 _ _ _ _
      | exact ih1 _ _ _ _
      | exact ih2 _ _ _ _
      | exact ih3 _ _ _ _
      | exact ih4 _ _ _ _ _
      | exact ih5 _ _ _ _ _ _
      | exact ih6 _ _ _ _
      | exact ih7 _ _ _
      | exact ih8 _ _ _
      | exact ih9 _ _ _ _
      | exact spec_l03Pow.mono _ _
      | exact spec_l03Sign.mono _ _ _
      | exact LeO.none _
      | refine LeO.ite ?_ ?_
      | refine LeO.bind ?_ (fun _ => ?_)
    · intro y0 y1 y2 y3
      unfold spec_RoundTo.j7
      repeat' first
      | (with_reducible exact ih0 _ _ _ _)
      | (with_reducible exact ih1 _ _ _ _)
      | (with_reducible exact ih2 _ _ _ _)
      | (with_reducible exact ih3 _ _ _ _)
      | (with_reducible exact ih4 _ _ _ _ _)
      | (with_reducible exact ih5 _ _ _ _ _ _)
      | (with_reducible exact ih6 _ _ _ _)
      | (with_reducible exact ih7 _ _ _)
      | (with_reducible exact ih8 _ _ _)
      | (with_reducible exact ih9 _ _ _ _)
      | (with_reducible exact spec_l03Pow.mono _ _)
      | (with_reducible exact spec_l03Sign.mono _ _ _)
      | (with_reducible exact LeO.refl _)
      | (with_reducible exact LeO.none _)
      | (with_reducible refine LeO.ite ?_ ?_)
      | (with_reducible refine LeO.bind ?_ (fun _ => ?_))
      | exact ih0 _ _ _ _
      | exact ih1 _ _ _ _
      | exact ih2 _ _ _ _
      | exact ih3 _ _ _ _
      | exact ih4 _ _ _ _ _
      | exact ih5 _ _ _ _ _ _
      | exact ih6 _ _ _ _
      | exact ih7 _ _ _
      | exact ih8 _ _ _
      | exact ih9 _ _ _ _
      | exact spec_l03Pow.mono _ _
      | exact spec_l03Sign.mono _ _ _
      | exact LeO.none _
      | refine LeO.ite ?_ ?_
      | refine LeO.bind ?_ (fun _ => ?_)
    · intro y0 y1 y2
      unfold spec_RoundTo.j8
      repeat' first
      | (with_reducible exact ih0 _ _ _ _)
      | (with_reducible exact ih1 _ _ _ _)
      | (with_reducible exact ih2 _ _ _ _)
      | (with_reducible exact ih3 _ _ _ _)
      | (with_reducible exact ih4 _ _ _ _ _)
      | (with_reducible exact ih5 _ _ _ _ _ _)
      | (with_reducible exact ih6 _ _ _ _)
      | (with_reducible exact ih7 _ _ _)
      | (with_reducible exact ih8 _ _ _)
      | (with_reducible exact ih9 _ _ _ _)
      | (with_reducible exact spec_l03Pow.mono _ _)
      | (with_reducible exact spec_l03Sign.mono _ _ _)
      | (with_reducible exact LeO.refl _)
      | (with_reducible exact LeO.none _)
      | (with_reducible refine LeO.ite ?_ ?_)
      | (with_reducible refine LeO.bind ?_ (fun _ => ?_))
      | exact ih0 _ _ _ _
      | exact ih1 _ _ _ _
      | exact ih2 _ _ _ _
      | exact ih3 _ _ _ _
      | exact ih4 _ _ _ _ _
      | exact ih5 _ _ _ _ _ _
      | exact ih6 _ _ _ _
      | exact ih7 _ _ _
      | exact ih8 _ _ _
      | exact ih9 _ _ _ _
      | exact spec_l03Pow.mono _ _
      | exact spec_l03Sign.mono _ _ _
      | exact LeO.none _
      | refine LeO.ite ?_ ?_
      | refine LeO.bind ?_ (fun _ => ?_)
    · intro y0 y1 y2
      unfold spec_RoundTo.j9
      repeat' first
      | (with_reducible exact ih0 _ _ _ _)
      | (with_reducible exact ih1 _ _ _ _)
      | (with_reducible exact ih2 _ _ _ _)
      | (with_reducible exact ih3 _ _ _ _)
      | (with_reducible exact ih4 _ _ _ _ _)
      | (with_reducible exact ih5 _ _ _ _ _ _)
      | (with_reducible exact ih6 _ _ _ _)
      | (with_reducible exact ih7 _ _ _)
      | (with_reducible exact ih8 _ _ _)
      | (with_reducible exact ih9 _ _ _ _)
      | (with_reducible exact spec_l03Pow.mono _ _)
      | (with_reducible exact spec_l03Sign.mono _ _ _)
      | (with_reducible exact LeO.refl _)
      | (with_reducible exact LeO.none _)
      | (with_reducible refine LeO.ite ?_ ?_)
      | (with_reducible refine LeO.bind ?_ (fun _ => ?_))
      | exact ih0 _ _ _ _
      | exact ih1 _ _ _ _
      | exact ih2 _ _ _ _
      | exact ih3 _ _ _ _
      | exact ih4 _ _ _ _ _
      | exact ih5 _ _ _ _ _ _
      | exact ih6 _ _ _ _
      | exact ih7 _ _ _
      | exact ih8 _ _ _
      | exact ih9 _ _ _ _
      | exact spec_l03Pow.mono _ _
      | exact spec_l03Sign.mono _ _ _
      | exact LeO.none _
      | refine LeO.ite ?_ ?_
      | refine LeO.bind ?_ (fun _ => ?_)
    · intro y0 y1 y2 y3
      unfold spec_RoundTo.l0
      repeat' first
      | (with_reducible exact ih0 _ _ _ _)
      | (with_reducible exact ih1 _ _ _ _)
      | (with_reducible exact ih2 _ _ _ _)
      | (with_reducible exact ih3 _ _ _ _)
      | (with_reducible exact ih4 _ _ _ _ _)
      | (with_reducible exact ih5 _ _ _ _ _ _)
      | (with_reducible exact ih6 _ _ _ _)
      | (with_reducible exact ih7 _ _ _)
      | (with_reducible exact ih8 _ _ _)
      | (with_reducible exact ih9 _ _ _ _)
      | (with_reducible exact spec_l03Pow.mono _ _)
      | (with_reducible exact spec_l03Sign.mono _ _ _)
      | (with_reducible exact LeO.refl _)
      | (with_reducible exact LeO.none _)
      | (with_reducible refine LeO.ite ?_ ?_)
      | (with_reducible refine LeO.bind ?_ (fun _ => ?_))
      | exact ih0 _ _ _ _
      | exact ih1 _ _ _ _
      | exact ih2 _ _ _ _
      | exact ih3 _ _ _ _
      | exact ih4 _ _ _ _ _
      | exact ih5 _ _ _ _ _ _
      | exact ih6 _ _ _ _
      | exact ih7 _ _ _
      | exact ih8 _ _ _
      | exact ih9 _ _ _ _
      | exact spec_l03Pow.mono _ _
      | exact spec_l03Sign.mono _ _ _
      | exact LeO.none _
      | refine LeO.ite ?_ ?_
      | refine LeO.bind ?_ (fun _ => ?_)
theorem spec_RoundTo.mono : ∀ a0 a1 a2 a3 k, LeO (spec_RoundTo.f k a0 a1 a2 a3) (spec_RoundTo.f (k + 1) a0 a1 a2 a3) := by
  intro a0 a1 a2 a3 k
  obtain ⟨ih0, ih1, ih2, ih3, ih4, ih5, ih6, ih7, ih8, ih9⟩ := spec_RoundTo.mono_l k
  unfold spec_RoundTo.f
  repeat' first
      | (with_reducible exact ih0 _ _ _ _)
      | (with_reducible exact ih1 _ _ _ _)
      | (with_reducible exact ih2 _ _ _ _)
      | (with_reducible exact ih3 _ _ _ _)
      | (with_reducible exact ih4 _ _ _ _ _)
      | (with_reducible exact ih5 _ _ _ _ _ _)
      | (with_reducible exact ih6 _ _ _ _)
      | (with_reducible exact ih7 _ _ _)
      | (with_reducible exact ih8 _ _ _)
      | (with_reducible exact ih9 _ _ _ _)
      | (with_reducible exact spec_l03Pow.mono _ _)
      | (with_reducible exact spec_l03Sign.mono _ _ _)
      | (with_reducible exact LeO.refl _)
      | (with_reducible exact LeO.none _)
      | (with_reducible refine LeO.ite ?_ ?_)
      | (with_reducible refine LeO.bind ?_ (fun _ => ?_))
      | exact ih0 _ _ _ _
      | exact ih1 _ _ _ _
      | exact ih2 _ _ _ _
      | exact ih3 _ _ _ _
      | exact ih4 _ _ _ _ _
      | exact ih5 _ _ _ _ _ _
      | exact ih6 _ _ _ _
      | exact ih7 _ _ _
      | exact ih8 _ _ _
      | exact ih9 _ _ _ _
      | exact spec_l03Pow.mono _ _
      | exact spec_l03Sign.mono _ _ _
      | exact LeO.none _
      | refine LeO.ite ?_ ?_
      | refine LeO.bind ?_ (fun _ => ?_)
set_option maxHeartbeats 8000000 in
set_option maxRecDepth 100000 in
theorem spec_RoundTo.calls (k : Nat) (a0 : Bool) (a1 : Int) (a2 : Int) (a3 : Bool) (r : Int) (w : World) (h : spec_RoundTo.f k a0 a1 a2 a3 = some r) :
    Calls Try.prog 42 #[.bool a0, .int .u64 a1, .int .i64 a2, .bool a3] w fun e w' => e = .returned (.int .u64 r) ∧ Drawn0 w w' := by
  have H : (if a2 > 5000 then (spec_RoundTo.j0 k a0 a1 5000 a3) else (spec_RoundTo.j0 k a0 a1 a2 a3)) = some r := h
  clear h
  have HC5 := Aside0.mk H
  clear H
  go_enter Try.func42, Try.ntmps42
  go_upto_if 13 with (fail)
  go_cut [2] (fun v2 wc => ∃ (kq : Nat) (x2_4 : Int), v2 = .int .i64 x2_4 ∧ Aside0 (spec_RoundTo.j0 kq a0 a1 x2_4 a3 = some r) ∧ Aside0 (kq ≤ k) ∧ Drawn0 w wc)
  case first =>
    have H := HC5.out
    clear HC5
    by_cases c6 : a2 > 5000
    · rw [if_pos c6] at H
      have c6b0 : decide (5000 < a2) = true := decide_eq_true c6
      clear c6
      (first | rw [c6b0] | (simp only [i64_w, i32_w]; rw [c6b0]) | skip)
      have H' := Aside0.mk H
      clear H
      go_wp2
      go_meet
      case rel => exact ⟨_, (5000), (by first | rfl | (simp; done) | (simp [*]; done)), H', ⟨by first | omega | exact Nat.le_refl _⟩, by repeat (first | exact Drawn0.refl _ | apply Drawn0.step)⟩
    · rw [if_neg c6] at H
      have c6b0 : decide (5000 < a2) = false := decide_eq_false c6
      clear c6
      (first | rw [c6b0] | (simp only [i64_w, i32_w]; rw [c6b0]) | skip)
      have H' := Aside0.mk H
      clear H
      go_wp2
      go_meet
      case rel => exact ⟨_, (a2), (by first | rfl | (simp; done) | (simp [*]; done)), H', ⟨by first | omega | exact Nat.le_refl _⟩, by repeat (first | exact Drawn0.refl _ | apply Drawn0.step)⟩
  case rest =>
    clear HC5
    try clear p2
    try clear c4
    try clear c6
    try clear c6b0
    obtain ⟨kq, x2_4, rfl, HA, HJ4, ⟨mc4, rfl⟩⟩ := hcut
    cases kq with
    | zero => exact absurd HA.out (by simp [spec_RoundTo.j0])
    | succ kj4 =>
      have H := HA.out
      clear HA
      simp only [spec_RoundTo.j0] at H
      have HC7 := Aside0.mk H
      clear H
      go_upto_if 15 with (fail)
      go_cut [2] (fun v2 wc => ∃ (kq : Nat) (x2_6 : Int), v2 = .int .i64 x2_6 ∧ Aside0 (spec_RoundTo.j1 kq a0 a1 x2_6 a3 = some r) ∧ Aside0 (kq ≤ kj4) ∧ Drawn0 w wc)
      case first =>
        have H := HC7.out
        clear HC7
        by_cases c8 : x2_4 < (-5000)
        · rw [if_pos c8] at H
          have c8b0 : decide (x2_4 < (-5000)) = true := decide_eq_true c8
          clear c8
          (first | rw [c8b0] | (simp only [i64_w, i32_w]; rw [c8b0]) | skip)
          have H' := Aside0.mk H
          clear H
          go_wp2
          go_meet
          case rel => exact ⟨_, ((-5000)), (by first | rfl | (simp; done) | (simp [*]; done)), H', ⟨by have := HJ4.out; first | omega | exact Nat.le_refl _⟩, by repeat (first | exact Drawn0.refl _ | apply Drawn0.step)⟩
        · rw [if_neg c8] at H
          have c8b0 : decide (x2_4 < (-5000)) = false := decide_eq_false c8
          clear c8
          (first | rw [c8b0] | (simp only [i64_w, i32_w]; rw [c8b0]) | skip)
          have H' := Aside0.mk H
          clear H
          go_wp2
          go_meet
          case rel => exact ⟨_, (x2_4), (by first | rfl | (simp; done) | (simp [*]; done)), H', ⟨by have := HJ4.out; first | omega | exact Nat.le_refl _⟩, by repeat (first | exact Drawn0.refl _ | apply Drawn0.step)⟩
      case rest =>
        clear HC7
        try clear p2
        try clear c4
        try clear c6
        try clear c6b0
        try clear c8
        try clear c8b0
        try clear p2
        obtain ⟨kq, x2_6, rfl, HA, HJ6, ⟨mc6, rfl⟩⟩ := hcut
        cases kq with
        | zero => exact absurd HA.out (by simp [spec_RoundTo.j1])
        | succ kj6 =>
          have H := HA.out
          clear HA
          simp only [spec_RoundTo.j1] at H
          have HC9 := Aside0.mk H
          clear H
          go_upto_region 5 with (fail)
          go_cut [9] (fun v9 wc => ∃ (kq : Nat) (x9_8 : Bool), v9 = .bool x9_8 ∧ Aside0 (spec_RoundTo.j2 kq a0 a1 x2_6 x9_8 = some r) ∧ Aside0 (kq ≤ kj6) ∧ Drawn0 w wc)
          case first =>
            have H := HC9.out
            clear HC9
            by_cases c10 : a3 = true
            · subst c10
              have H1 : ((spec_l03Pow.f kj6 56).bind fun t152 => (spec_RoundTo.j2 kj6 a0 a1 x2_6 (decide (a1 ≥ t152)))) = some r := by rw [if_pos rfl] at H; exact H
              clear H
              have H := H1
              clear H1
              replace H := Option.bind_eq_some_iff.mp H
              obtain ⟨t152, A110, H⟩ := H
              replace H : (spec_RoundTo.j2 kj6 a0 a1 x2_6 (decide (a1 ≥ t152))) = some r := H
              have A11 := Aside0.mk A110
              clear A110
              have H' := Aside0.mk H
              clear H
              go_wp2_with (first | (go_at_call 37; (with_reducible refine (spec_l03Pow.calls kj6 56 t152 _ A11.out).mono ?_); rintro e w' ⟨rfl, ⟨nd, rfl⟩⟩))
              go_meet
              case rel => exact ⟨_, (decide (a1 ≥ t152)), (by first | rfl | (simp; done) | (simp [*]; done)), H', ⟨by have := HJ4.out; have := HJ6.out; first | omega | exact Nat.le_refl _⟩, by repeat (first | exact Drawn0.refl _ | apply Drawn0.step)⟩
            · replace c10 := Bool.eq_false_iff.mpr c10
              subst c10
              have H1 : (spec_RoundTo.j2 kj6 a0 a1 x2_6 false) = some r := by rw [if_neg (show ¬ (false = true) by decide)] at H; exact H
              clear H
              have H := H1
              clear H1
              have H' := Aside0.mk H
              clear H
              go_wp2
              go_meet
              case rel => exact ⟨_, (false), (by first | rfl | (simp; done) | (simp [*]; done)), H', ⟨by have := HJ4.out; have := HJ6.out; first | omega | exact Nat.le_refl _⟩, by repeat (first | exact Drawn0.refl _ | apply Drawn0.step)⟩
          case rest =>
            clear HC9
            try clear c1
            try clear p2
            try clear c4
            try clear c6
            try clear c6b0
            try clear c8
            try clear c8b0
            try clear c10
            try clear p2
            obtain ⟨kq, x9_8, rfl, HA, HJ8, ⟨mc8, rfl⟩⟩ := hcut
            cases kq with
            | zero => exact absurd HA.out (by simp [spec_RoundTo.j2])
            | succ kj8 =>
              have H := HA.out
              clear HA
              simp only [spec_RoundTo.j2] at H
              by_cases c12 : a1 = 0
              · rw [if_pos c12] at H
                have c12b0 : (a1 == 0) = true := beq_iff_eq.mpr c12
                have c12b1 : (a1 != 0) = false := bne_eq_false_iff_eq.mpr c12
                clear c12
                replace H := Option.bind_eq_some_iff.mp H
                obtain ⟨t153, A130, H⟩ := H
                replace H : (some t153) = some r := H
                have A13 := Aside0.mk A130
                clear A130
                obtain rfl := Option.some.inj H
                go_wp2_with (first | ((with_reducible refine gate_callee (f := 43) rfl ?_); refine goesL_ (some 25) rfl rfl Try.func43 (by kernel_rfl) rfl #[.int .u64 0, .bool a0] rfl (by (try simp only [List.map_toArray, List.map_cons, List.map_nil]); first | done | rfl | (simp only [List.length_drop, List.length_take]; rfl)) ?_; (with_reducible refine (spec_l03Sign.calls kj8 0 a0 t153 _ A13.out).mono ?_); rintro e w' ⟨rfl, ⟨nd, rfl⟩⟩; refine ⟨_, rfl, ?_⟩))
                go_ret
                exact ⟨by first | rfl | (simp; done) | (simp [*]; done), by repeat (first | exact Drawn0.refl _ | apply Drawn0.step)⟩
              · rw [if_neg c12] at H
                have c12b0 : (a1 == 0) = false := beq_eq_false_iff_ne.mpr c12
                have c12b1 : (a1 != 0) = true := bne_iff_ne.mpr c12
                have HC14 := Aside0.mk H
                clear H
                go_upto_block 0 with (fail)
                go_cut [1, 2] (fun v1 v2 wc => ∃ (kq : Nat) (x1_13 : Int) (x2_13 : Int), v1 = .int .u64 x1_13 ∧ v2 = .int .i64 x2_13 ∧ Aside0 (spec_RoundTo.j4 kq a0 x1_13 x2_13 x9_8 = some r) ∧ Aside0 (kq ≤ kj8) ∧ Drawn0 w wc)
                case first =>
                  have H := HC14.out
                  clear HC14
                  have H' := Aside0.mk H
                  clear H
                  go_wp2
                  go_loopg [1, 2] kj8 (fun kq v1 v2 w' => ∃ (x1_4 : Int) (x2_4 : Int), v1 = .int .u64 x1_4 ∧ v2 = .int .i64 x2_4 ∧ Aside0 (spec_RoundTo.l0 kq a0 x1_4 x2_4 x9_8 = some r) ∧ Aside0 (kq ≤ kj8) ∧ Drawn0 w w')
                  case atStart => exact ⟨(a1), (x2_6), (by first | rfl | (simp; done) | (simp [*]; done)), (by first | rfl | (simp; done) | (simp [*]; done)), H', ⟨Nat.le_refl _⟩, by repeat (first | exact Drawn0.refl _ | apply Drawn0.step)⟩
                  case round =>
                    clear H'
                    try clear c1
                    try clear p2
                    try clear c4
                    try clear c6
                    try clear c6b0
                    try clear c8
                    try clear c8b0
                    try clear c10
                    try clear c12
                    try clear c12b0
                    try clear c12b1
                    try clear p2
                    obtain ⟨x1_4, x2_4, rfl, rfl, HA, HK4, ⟨m4, rfl⟩⟩ := hrel
                    cases gk with
                    | zero => exact absurd HA.out (by simp [spec_RoundTo.l0])
                    | succ k4 =>
                      have H := HA.out
                      clear HA
                      simp only [spec_RoundTo.l0] at H
                      by_cases c15 : x1_4 < 4503599627370496
                      · rw [if_pos c15] at H
                        have c15b0 : decide (x1_4 < 4503599627370496) = true := decide_eq_true c15
                        clear c15
                        (first | rw [c15b0] | (simp only [i64_w, i32_w]; rw [c15b0]) | skip)
                        by_cases c16 : x2_4 > (-1074)
                        · rw [if_pos c16] at H
                          have c16b0 : decide ((-1074) < x2_4) = true := decide_eq_true c16
                          clear c16
                          have H' := Aside0.mk H
                          clear H
                          go_wp2
                          go_roundg k4
                          case measure => have := HJ4.out; have := HJ6.out; have := HJ8.out; have := HK4.out; omega
                          case rel => exact ⟨(IntKind.u64.wrap (x1_4 * 2)), (wrap64 (x2_4 - 1)), (by first | rfl | (simp; done) | (simp [*]; done)), (by first | rfl | (simp; done) | (simp [*]; done)), H', ⟨by have := HJ4.out; have := HJ6.out; have := HJ8.out; have := HK4.out; omega⟩, by repeat (first | exact Drawn0.refl _ | apply Drawn0.step)⟩
                        · rw [if_neg c16] at H
                          have c16b0 : decide ((-1074) < x2_4) = false := decide_eq_false c16
                          clear c16
                          have H' := Aside0.mk H
                          clear H
                          go_wp2
                          go_meet
                          case rel => exact ⟨_, (x1_4), (x2_4), (by first | rfl | (simp; done) | (simp [*]; done)), (by first | rfl | (simp; done) | (simp [*]; done)), H', ⟨by have := HJ4.out; have := HJ6.out; have := HJ8.out; have := HK4.out; first | omega | exact Nat.le_refl _⟩, by repeat (first | exact Drawn0.refl _ | apply Drawn0.step)⟩
                      · rw [if_neg c15] at H
                        have c15b0 : decide (x1_4 < 4503599627370496) = false := decide_eq_false c15
                        clear c15
                        (first | rw [c15b0] | (simp only [i64_w, i32_w]; rw [c15b0]) | skip)
                        have H' := Aside0.mk H
                        clear H
                        go_wp2
                        go_meet
                        case rel => exact ⟨_, (x1_4), (x2_4), (by first | rfl | (simp; done) | (simp [*]; done)), (by first | rfl | (simp; done) | (simp [*]; done)), H', ⟨by have := HJ4.out; have := HJ6.out; have := HJ8.out; have := HK4.out; first | omega | exact Nat.le_refl _⟩, by repeat (first | exact Drawn0.refl _ | apply Drawn0.step)⟩
                case rest =>
                  clear HC14
                  try clear c1
                  try clear p2
                  try clear c4
                  try clear c6
                  try clear c6b0
                  try clear p6
                  try clear c8
                  try clear c8b0
                  try clear c10
                  try clear c12
                  try clear c12b0
                  try clear c12b1
                  try clear c15
                  try clear c15b0
                  try clear c16
                  try clear c16b0
                  try clear p2
                  obtain ⟨kq, x1_13, x2_13, rfl, rfl, HA, HJ13, ⟨mc13, rfl⟩⟩ := hcut
                  cases kq with
                  | zero => exact absurd HA.out (by simp [spec_RoundTo.j4])
                  | succ kj13 =>
                    have H := HA.out
                    clear HA
                    simp only [spec_RoundTo.j4] at H
                    have H' := Aside0.mk H
                    clear H
                    go_wp2
                    go_loopg [1, 2, 10, 11] kj13 (fun kq v1 v2 v10 v11 w' => ∃ (x1_5 : Int) (x2_5 : Int) (x10_5 : Bool) (x11_5 : Bool), v1 = .int .u64 x1_5 ∧ v2 = .int .i64 x2_5 ∧ v10 = .bool x10_5 ∧ v11 = .bool x11_5 ∧ Aside0 (spec_RoundTo.l1 kq a0 x1_5 x2_5 x10_5 x11_5 = some r) ∧ Aside0 (kq ≤ kj13) ∧ Drawn0 w w')
                    case atStart => exact ⟨(x1_13), (x2_13), (false), (x9_8), (by first | rfl | (simp; done) | (simp [*]; done)), (by first | rfl | (simp; done) | (simp [*]; done)), (by first | rfl | (simp; done) | (simp [*]; done)), (by first | rfl | (simp; done) | (simp [*]; done)), H', ⟨Nat.le_refl _⟩, by repeat (first | exact Drawn0.refl _ | apply Drawn0.step)⟩
                    case round =>
                      clear H'
                      try clear c1
                      try clear p2
                      try clear c4
                      try clear c6
                      try clear c6b0
                      try clear p6
                      try clear c8
                      try clear c8b0
                      try clear c10
                      try clear c12
                      try clear c12b0
                      try clear c12b1
                      try clear c13
                      try clear c15
                      try clear c15b0
                      try clear c16
                      try clear c16b0
                      try clear p2
                      try clear p6
                      obtain ⟨x1_5, x2_5, x10_5, x11_5, rfl, rfl, rfl, rfl, HA, HK5, ⟨m5, rfl⟩⟩ := hrel
                      cases gk with
                      | zero => exact absurd HA.out (by simp [spec_RoundTo.l1])
                      | succ k5 =>
                        have H := HA.out
                        clear HA
                        simp only [spec_RoundTo.l1] at H
                        have HC17 := Aside0.mk H
                        clear H
                        go_upto_region 13 with (fail)
                        go_cut [42] (fun v42 wc => ∃ (kq : Nat) (x42_16 : Bool), v42 = .bool x42_16 ∧ Aside0 (spec_RoundTo.j6 kq a0 x1_5 x2_5 x10_5 x11_5 x42_16 = some r) ∧ Aside0 (kq ≤ k5) ∧ Drawn0 w wc)
                        case first =>
                          have H := HC17.out
                          clear HC17
                          by_cases c18 : x1_5 ≥ 9007199254740992
                          · rw [if_pos c18] at H
                            have c18b0 : decide (9007199254740992 ≤ x1_5) = true := decide_eq_true c18
                            clear c18
                            (first | rw [c18b0] | (simp only [i64_w, i32_w]; rw [c18b0]) | skip)
                            have H' := Aside0.mk H
                            clear H
                            go_wp2
                            go_meet
                            case rel => exact ⟨_, (true), (by first | rfl | (simp; done) | (simp [*]; done)), H', ⟨by have := HJ4.out; have := HJ6.out; have := HJ8.out; have := HJ13.out; have := HK5.out; first | omega | exact Nat.le_refl _⟩, by repeat (first | exact Drawn0.refl _ | apply Drawn0.step)⟩
                          · rw [if_neg c18] at H
                            have c18b0 : decide (9007199254740992 ≤ x1_5) = false := decide_eq_false c18
                            clear c18
                            (first | rw [c18b0] | (simp only [i64_w, i32_w]; rw [c18b0]) | skip)
                            have H' := Aside0.mk H
                            clear H
                            go_wp2
                            go_meet
                            case rel => exact ⟨_, (decide (x2_5 < (-1074))), (by first | rfl | (simp; done) | (simp [*]; done)), H', ⟨by have := HJ4.out; have := HJ6.out; have := HJ8.out; have := HJ13.out; have := HK5.out; first | omega | exact Nat.le_refl _⟩, by repeat (first | exact Drawn0.refl _ | apply Drawn0.step)⟩
                        case rest =>
                          clear HC17
                          try clear c1
                          try clear p2
                          try clear c4
                          try clear c6
                          try clear c6b0
                          try clear p6
                          try clear c8
                          try clear c8b0
                          try clear c10
                          try clear c12
                          try clear c12b0
                          try clear c12b1
                          try clear c13
                          try clear c15
                          try clear c15b0
                          try clear c16
                          try clear c16b0
                          try clear c18
                          try clear c18b0
                          try clear p2
                          try clear p6
                          obtain ⟨kq, x42_16, rfl, HA, HJ16, ⟨mc16, rfl⟩⟩ := hcut
                          cases kq with
                          | zero => exact absurd HA.out (by simp [spec_RoundTo.j6])
                          | succ kj16 =>
                            have H := HA.out
                            clear HA
                            simp only [spec_RoundTo.j6] at H
                            by_cases c19 : x42_16 = true
                            · subst c19
                              have H1 : (if x11_5 = true then (if (IntKind.u64.wrap (Int.tdiv x1_5 2)) = 0 then (if (wrap64 (x2_5 + 1)) < (-1074) then (spec_RoundTo.l1 kj16 a0 (IntKind.u64.wrap (Int.tdiv x1_5 2)) (-1074) false true) else (spec_RoundTo.l1 kj16 a0 (IntKind.u64.wrap (Int.tdiv x1_5 2)) (wrap64 (x2_5 + 1)) ((Int.tmod x1_5 2) == 1) true)) else (spec_RoundTo.l1 kj16 a0 (IntKind.u64.wrap (Int.tdiv x1_5 2)) (wrap64 (x2_5 + 1)) ((Int.tmod x1_5 2) == 1) true)) else (if (IntKind.u64.wrap (Int.tdiv x1_5 2)) = 0 then (if (wrap64 (x2_5 + 1)) < (-1074) then (if x10_5 = true then (spec_RoundTo.l1 kj16 a0 (IntKind.u64.wrap (Int.tdiv x1_5 2)) (-1074) false true) else (spec_RoundTo.l1 kj16 a0 (IntKind.u64.wrap (Int.tdiv x1_5 2)) (-1074) false ((Int.tmod x1_5 2) == 1))) else (spec_RoundTo.l1 kj16 a0 (IntKind.u64.wrap (Int.tdiv x1_5 2)) (wrap64 (x2_5 + 1)) ((Int.tmod x1_5 2) == 1) x10_5)) else (spec_RoundTo.l1 kj16 a0 (IntKind.u64.wrap (Int.tdiv x1_5 2)) (wrap64 (x2_5 + 1)) ((Int.tmod x1_5 2) == 1) x10_5))) = some r := by rw [if_pos rfl] at H; exact H
                              clear H
                              have H := H1
                              clear H1
                              by_cases c20 : x11_5 = true
                              · subst c20
                                have H1 : (if (IntKind.u64.wrap (Int.tdiv x1_5 2)) = 0 then (if (wrap64 (x2_5 + 1)) < (-1074) then (spec_RoundTo.l1 kj16 a0 (IntKind.u64.wrap (Int.tdiv x1_5 2)) (-1074) false true) else (spec_RoundTo.l1 kj16 a0 (IntKind.u64.wrap (Int.tdiv x1_5 2)) (wrap64 (x2_5 + 1)) ((Int.tmod x1_5 2) == 1) true)) else (spec_RoundTo.l1 kj16 a0 (IntKind.u64.wrap (Int.tdiv x1_5 2)) (wrap64 (x2_5 + 1)) ((Int.tmod x1_5 2) == 1) true)) = some r := by rw [if_pos rfl] at H; exact H
                                clear H
                                have H := H1
                                clear H1
                                by_cases c21 : (IntKind.u64.wrap (Int.tdiv x1_5 2)) = 0
                                · rw [if_pos c21] at H
                                  have c21b0 : ((IntKind.u64.wrap (Int.tdiv x1_5 2)) == 0) = true := beq_iff_eq.mpr c21
                                  have c21b1 : ((IntKind.u64.wrap (Int.tdiv x1_5 2)) != 0) = false := bne_eq_false_iff_eq.mpr c21
                                  clear c21
                                  by_cases c22 : (wrap64 (x2_5 + 1)) < (-1074)
                                  · rw [if_pos c22] at H
                                    have c22b0 : decide ((wrap64 (x2_5 + 1)) < (-1074)) = true := decide_eq_true c22
                                    clear c22
                                    have H' := Aside0.mk H
                                    clear H
                                    go_wp2
                                    go_roundg kj16
                                    case measure => have := HJ4.out; have := HJ6.out; have := HJ8.out; have := HJ13.out; have := HK5.out; have := HJ16.out; omega
                                    case rel => exact ⟨(IntKind.u64.wrap (Int.tdiv x1_5 2)), ((-1074)), (false), (true), (by first | rfl | (simp; done) | (simp [*]; done)), (by first | rfl | (simp; done) | (simp [*]; done)), (by first | rfl | (simp; done) | (simp [*]; done)), (by first | rfl | (simp; done) | (simp [*]; done)), H', ⟨by have := HJ4.out; have := HJ6.out; have := HJ8.out; have := HJ13.out; have := HK5.out; have := HJ16.out; omega⟩, by repeat (first | exact Drawn0.refl _ | apply Drawn0.step)⟩
                                  · rw [if_neg c22] at H
                                    have c22b0 : decide ((wrap64 (x2_5 + 1)) < (-1074)) = false := decide_eq_false c22
                                    clear c22
                                    have H' := Aside0.mk H
                                    clear H
                                    go_wp2
                                    go_roundg kj16
                                    case measure => have := HJ4.out; have := HJ6.out; have := HJ8.out; have := HJ13.out; have := HK5.out; have := HJ16.out; omega
                                    case rel => exact ⟨(IntKind.u64.wrap (Int.tdiv x1_5 2)), (wrap64 (x2_5 + 1)), (((Int.tmod x1_5 2) == 1)), (true), (by first | rfl | (simp; done) | (simp [*]; done)), (by first | rfl | (simp; done) | (simp [*]; done)), (by first | rfl | (simp; done) | (simp [*]; done)), (by first | rfl | (simp; done) | (simp [*]; done)), H', ⟨by have := HJ4.out; have := HJ6.out; have := HJ8.out; have := HJ13.out; have := HK5.out; have := HJ16.out; omega⟩, by repeat (first | exact Drawn0.refl _ | apply Drawn0.step)⟩
                                · rw [if_neg c21] at H
                                  have c21b0 : ((IntKind.u64.wrap (Int.tdiv x1_5 2)) == 0) = false := beq_eq_false_iff_ne.mpr c21
                                  have c21b1 : ((IntKind.u64.wrap (Int.tdiv x1_5 2)) != 0) = true := bne_iff_ne.mpr c21
                                  have H' := Aside0.mk H
                                  clear H
                                  go_wp2
                                  go_roundg kj16
                                  case measure => have := HJ4.out; have := HJ6.out; have := HJ8.out; have := HJ13.out; have := HK5.out; have := HJ16.out; omega
                                  case rel => exact ⟨(IntKind.u64.wrap (Int.tdiv x1_5 2)), (wrap64 (x2_5 + 1)), (((Int.tmod x1_5 2) == 1)), (true), (by first | rfl | (simp; done) | (simp [*]; done)), (by first | rfl | (simp; done) | (simp [*]; done)), (by first | rfl | (simp; done) | (simp [*]; done)), (by first | rfl | (simp; done) | (simp [*]; done)), H', ⟨by have := HJ4.out; have := HJ6.out; have := HJ8.out; have := HJ13.out; have := HK5.out; have := HJ16.out; omega⟩, by repeat (first | exact Drawn0.refl _ | apply Drawn0.step)⟩
                              · replace c20 := Bool.eq_false_iff.mpr c20
                                subst c20
                                have H1 : (if (IntKind.u64.wrap (Int.tdiv x1_5 2)) = 0 then (if (wrap64 (x2_5 + 1)) < (-1074) then (if x10_5 = true then (spec_RoundTo.l1 kj16 a0 (IntKind.u64.wrap (Int.tdiv x1_5 2)) (-1074) false true) else (spec_RoundTo.l1 kj16 a0 (IntKind.u64.wrap (Int.tdiv x1_5 2)) (-1074) false ((Int.tmod x1_5 2) == 1))) else (spec_RoundTo.l1 kj16 a0 (IntKind.u64.wrap (Int.tdiv x1_5 2)) (wrap64 (x2_5 + 1)) ((Int.tmod x1_5 2) == 1) x10_5)) else (spec_RoundTo.l1 kj16 a0 (IntKind.u64.wrap (Int.tdiv x1_5 2)) (wrap64 (x2_5 + 1)) ((Int.tmod x1_5 2) == 1) x10_5)) = some r := by rw [if_neg (show ¬ (false = true) by decide)] at H; exact H
                                clear H
                                have H := H1
                                clear H1
                                by_cases c23 : (IntKind.u64.wrap (Int.tdiv x1_5 2)) = 0
                                · rw [if_pos c23] at H
                                  have c23b0 : ((IntKind.u64.wrap (Int.tdiv x1_5 2)) == 0) = true := beq_iff_eq.mpr c23
                                  have c23b1 : ((IntKind.u64.wrap (Int.tdiv x1_5 2)) != 0) = false := bne_eq_false_iff_eq.mpr c23
                                  clear c23
                                  by_cases c24 : (wrap64 (x2_5 + 1)) < (-1074)
                                  · rw [if_pos c24] at H
                                    have c24b0 : decide ((wrap64 (x2_5 + 1)) < (-1074)) = true := decide_eq_true c24
                                    clear c24
                                    by_cases c25 : x10_5 = true
                                    · subst c25
                                      have H1 : (spec_RoundTo.l1 kj16 a0 (IntKind.u64.wrap (Int.tdiv x1_5 2)) (-1074) false true) = some r := by rw [if_pos rfl] at H; exact H
                                      clear H
                                      have H := H1
                                      clear H1
                                      have H' := Aside0.mk H
                                      clear H
                                      go_wp2
                                      go_roundg kj16
                                      case measure => have := HJ4.out; have := HJ6.out; have := HJ8.out; have := HJ13.out; have := HK5.out; have := HJ16.out; omega
                                      case rel => exact ⟨(IntKind.u64.wrap (Int.tdiv x1_5 2)), ((-1074)), (false), (true), (by first | rfl | (simp; done) | (simp [*]; done)), (by first | rfl | (simp; done) | (simp [*]; done)), (by first | rfl | (simp; done) | (simp [*]; done)), (by first | rfl | (simp; done) | (simp [*]; done)), H', ⟨by have := HJ4.out; have := HJ6.out; have := HJ8.out; have := HJ13.out; have := HK5.out; have := HJ16.out; omega⟩, by repeat (first | exact Drawn0.refl _ | apply Drawn0.step)⟩
                                    · replace c25 := Bool.eq_false_iff.mpr c25
                                      subst c25
                                      have H1 : (spec_RoundTo.l1 kj16 a0 (IntKind.u64.wrap (Int.tdiv x1_5 2)) (-1074) false ((Int.tmod x1_5 2) == 1)) = some r := by rw [if_neg (show ¬ (false = true) by decide)] at H; exact H
                                      clear H
                                      have H := H1
                                      clear H1
                                      have H' := Aside0.mk H
                                      clear H
                                      go_wp2
                                      go_roundg kj16
                                      case measure => have := HJ4.out; have := HJ6.out; have := HJ8.out; have := HJ13.out; have := HK5.out; have := HJ16.out; omega
                                      case rel => exact ⟨(IntKind.u64.wrap (Int.tdiv x1_5 2)), ((-1074)), (false), (((Int.tmod x1_5 2) == 1)), (by first | rfl | (simp; done) | (simp [*]; done)), (by first | rfl | (simp; done) | (simp [*]; done)), (by first | rfl | (simp; done) | (simp [*]; done)), (by first | rfl | (simp; done) | (simp [*]; done)), H', ⟨by have := HJ4.out; have := HJ6.out; have := HJ8.out; have := HJ13.out; have := HK5.out; have := HJ16.out; omega⟩, by repeat (first | exact Drawn0.refl _ | apply Drawn0.step)⟩
                                  · rw [if_neg c24] at H
                                    have c24b0 : decide ((wrap64 (x2_5 + 1)) < (-1074)) = false := decide_eq_false c24
                                    clear c24
                                    have H' := Aside0.mk H
                                    clear H
                                    go_wp2
                                    go_roundg kj16
                                    case measure => have := HJ4.out; have := HJ6.out; have := HJ8.out; have := HJ13.out; have := HK5.out; have := HJ16.out; omega
                                    case rel => exact ⟨(IntKind.u64.wrap (Int.tdiv x1_5 2)), (wrap64 (x2_5 + 1)), (((Int.tmod x1_5 2) == 1)), (x10_5), (by first | rfl | (simp; done) | (simp [*]; done)), (by first | rfl | (simp; done) | (simp [*]; done)), (by first | rfl | (simp; done) | (simp [*]; done)), (by first | rfl | (simp; done) | (simp [*]; done)), H', ⟨by have := HJ4.out; have := HJ6.out; have := HJ8.out; have := HJ13.out; have := HK5.out; have := HJ16.out; omega⟩, by repeat (first | exact Drawn0.refl _ | apply Drawn0.step)⟩
                                · rw [if_neg c23] at H
                                  have c23b0 : ((IntKind.u64.wrap (Int.tdiv x1_5 2)) == 0) = false := beq_eq_false_iff_ne.mpr c23
                                  have c23b1 : ((IntKind.u64.wrap (Int.tdiv x1_5 2)) != 0) = true := bne_iff_ne.mpr c23
                                  have H' := Aside0.mk H
                                  clear H
                                  go_wp2
                                  go_roundg kj16
                                  case measure => have := HJ4.out; have := HJ6.out; have := HJ8.out; have := HJ13.out; have := HK5.out; have := HJ16.out; omega
                                  case rel => exact ⟨(IntKind.u64.wrap (Int.tdiv x1_5 2)), (wrap64 (x2_5 + 1)), (((Int.tmod x1_5 2) == 1)), (x10_5), (by first | rfl | (simp; done) | (simp [*]; done)), (by first | rfl | (simp; done) | (simp [*]; done)), (by first | rfl | (simp; done) | (simp [*]; done)), (by first | rfl | (simp; done) | (simp [*]; done)), H', ⟨by have := HJ4.out; have := HJ6.out; have := HJ8.out; have := HJ13.out; have := HK5.out; have := HJ16.out; omega⟩, by repeat (first | exact Drawn0.refl _ | apply Drawn0.step)⟩
                            · replace c19 := Bool.eq_false_iff.mpr c19
                              subst c19
                              have H1 : (if x10_5 = true then (if x11_5 = true then (spec_RoundTo.j7 kj16 a0 x1_5 x2_5 true) else (spec_RoundTo.j7 kj16 a0 x1_5 x2_5 ((Int.tmod x1_5 2) == 1))) else (spec_RoundTo.j7 kj16 a0 x1_5 x2_5 false)) = some r := by rw [if_neg (show ¬ (false = true) by decide)] at H; exact H
                              clear H
                              have H := H1
                              clear H1
                              have HC26 := Aside0.mk H
                              clear H
                              go_upto_region 22 with (fail)
                              go_cut [72] (fun v72 wc => ∃ (kq : Nat) (x72_25 : Bool), v72 = .bool x72_25 ∧ Aside0 (spec_RoundTo.j7 kq a0 x1_5 x2_5 x72_25 = some r) ∧ Aside0 (kq ≤ kj16) ∧ Drawn0 w wc)
                              case first =>
                                have H := HC26.out
                                clear HC26
                                by_cases c27 : x10_5 = true
                                · subst c27
                                  have H1 : (if x11_5 = true then (spec_RoundTo.j7 kj16 a0 x1_5 x2_5 true) else (spec_RoundTo.j7 kj16 a0 x1_5 x2_5 ((Int.tmod x1_5 2) == 1))) = some r := by rw [if_pos rfl] at H; exact H
                                  clear H
                                  have H := H1
                                  clear H1
                                  by_cases c28 : x11_5 = true
                                  · subst c28
                                    have H1 : (spec_RoundTo.j7 kj16 a0 x1_5 x2_5 true) = some r := by rw [if_pos rfl] at H; exact H
                                    clear H
                                    have H := H1
                                    clear H1
                                    have H' := Aside0.mk H
                                    clear H
                                    go_wp2
                                    go_meet
                                    case rel => exact ⟨_, (true), (by first | rfl | (simp; done) | (simp [*]; done)), H', ⟨by have := HJ4.out; have := HJ6.out; have := HJ8.out; have := HJ13.out; have := HK5.out; have := HJ16.out; first | omega | exact Nat.le_refl _⟩, by repeat (first | exact Drawn0.refl _ | apply Drawn0.step)⟩
                                  · replace c28 := Bool.eq_false_iff.mpr c28
                                    subst c28
                                    have H1 : (spec_RoundTo.j7 kj16 a0 x1_5 x2_5 ((Int.tmod x1_5 2) == 1)) = some r := by rw [if_neg (show ¬ (false = true) by decide)] at H; exact H
                                    clear H
                                    have H := H1
                                    clear H1
                                    have H' := Aside0.mk H
                                    clear H
                                    go_wp2
                                    go_meet
                                    case rel => exact ⟨_, (((Int.tmod x1_5 2) == 1)), (by first | rfl | (simp; done) | (simp [*]; done)), H', ⟨by have := HJ4.out; have := HJ6.out; have := HJ8.out; have := HJ13.out; have := HK5.out; have := HJ16.out; first | omega | exact Nat.le_refl _⟩, by repeat (first | exact Drawn0.refl _ | apply Drawn0.step)⟩
                                · replace c27 := Bool.eq_false_iff.mpr c27
                                  subst c27
                                  have H1 : (spec_RoundTo.j7 kj16 a0 x1_5 x2_5 false) = some r := by rw [if_neg (show ¬ (false = true) by decide)] at H; exact H
                                  clear H
                                  have H := H1
                                  clear H1
                                  have H' := Aside0.mk H
                                  clear H
                                  go_wp2
                                  go_meet
                                  case rel => exact ⟨_, (false), (by first | rfl | (simp; done) | (simp [*]; done)), H', ⟨by have := HJ4.out; have := HJ6.out; have := HJ8.out; have := HJ13.out; have := HK5.out; have := HJ16.out; first | omega | exact Nat.le_refl _⟩, by repeat (first | exact Drawn0.refl _ | apply Drawn0.step)⟩
                              case rest =>
                                clear HC26
                                try clear c1
                                try clear c2
                                try clear p2
                                try clear c4
                                try clear c6
                                try clear c6b0
                                try clear p6
                                try clear c8
                                try clear c8b0
                                try clear c10
                                try clear c12
                                try clear c12b0
                                try clear c12b1
                                try clear c13
                                try clear c15
                                try clear c15b0
                                try clear c16
                                try clear c16b0
                                try clear c18
                                try clear c18b0
                                try clear c19
                                try clear c20
                                try clear c21
                                try clear c21b0
                                try clear c21b1
                                try clear c22
                                try clear c22b0
                                try clear c23
                                try clear c23b0
                                try clear c23b1
                                try clear c24
                                try clear c24b0
                                try clear c25
                                try clear c27
                                try clear c28
                                try clear p2
                                try clear p6
                                obtain ⟨kq, x72_25, rfl, HA, HJ25, ⟨mc25, rfl⟩⟩ := hcut
                                cases kq with
                                | zero => exact absurd HA.out (by simp [spec_RoundTo.j7])
                                | succ kj25 =>
                                  have H := HA.out
                                  clear HA
                                  simp only [spec_RoundTo.j7] at H
                                  have HC29 := Aside0.mk H
                                  clear H
                                  go_upto_if 72 with (fail)
                                  go_cut [1] (fun v1 wc => ∃ (kq : Nat) (x1_28 : Int), v1 = .int .u64 x1_28 ∧ Aside0 (spec_RoundTo.j8 kq a0 x1_28 x2_5 = some r) ∧ Aside0 (kq ≤ kj25) ∧ Drawn0 w wc)
                                  case first =>
                                    have H := HC29.out
                                    clear HC29
                                    by_cases c30 : x72_25 = true
                                    · subst c30
                                      have H1 : (spec_RoundTo.j8 kj25 a0 (IntKind.u64.wrap (x1_5 + 1)) x2_5) = some r := by rw [if_pos rfl] at H; exact H
                                      clear H
                                      have H := H1
                                      clear H1
                                      have H' := Aside0.mk H
                                      clear H
                                      go_wp2
                                      go_meet
                                      case rel => exact ⟨_, (IntKind.u64.wrap (x1_5 + 1)), (by first | rfl | (simp; done) | (simp [*]; done)), H', ⟨by have := HJ4.out; have := HJ6.out; have := HJ8.out; have := HJ13.out; have := HK5.out; have := HJ16.out; have := HJ25.out; first | omega | exact Nat.le_refl _⟩, by repeat (first | exact Drawn0.refl _ | apply Drawn0.step)⟩
                                    · replace c30 := Bool.eq_false_iff.mpr c30
                                      subst c30
                                      have H1 : (spec_RoundTo.j8 kj25 a0 x1_5 x2_5) = some r := by rw [if_neg (show ¬ (false = true) by decide)] at H; exact H
                                      clear H
                                      have H := H1
                                      clear H1
                                      have H' := Aside0.mk H
                                      clear H
                                      go_wp2
                                      go_meet
                                      case rel => exact ⟨_, (x1_5), (by first | rfl | (simp; done) | (simp [*]; done)), H', ⟨by have := HJ4.out; have := HJ6.out; have := HJ8.out; have := HJ13.out; have := HK5.out; have := HJ16.out; have := HJ25.out; first | omega | exact Nat.le_refl _⟩, by repeat (first | exact Drawn0.refl _ | apply Drawn0.step)⟩
                                  case rest =>
                                    clear HC29
                                    try clear c1
                                    try clear c2
                                    try clear p2
                                    try clear c3
                                    try clear c4
                                    try clear c6
                                    try clear c6b0
                                    try clear p6
                                    try clear c8
                                    try clear c8b0
                                    try clear c10
                                    try clear c12
                                    try clear c12b0
                                    try clear c12b1
                                    try clear c13
                                    try clear c15
                                    try clear c15b0
                                    try clear c16
                                    try clear c16b0
                                    try clear c18
                                    try clear c18b0
                                    try clear c19
                                    try clear c20
                                    try clear c21
                                    try clear c21b0
                                    try clear c21b1
                                    try clear c22
                                    try clear c22b0
                                    try clear c23
                                    try clear c23b0
                                    try clear c23b1
                                    try clear c24
                                    try clear c24b0
                                    try clear c25
                                    try clear c27
                                    try clear c28
                                    try clear c30
                                    try clear p2
                                    try clear p6
                                    obtain ⟨kq, x1_28, rfl, HA, HJ28, ⟨mc28, rfl⟩⟩ := hcut
                                    cases kq with
                                    | zero => exact absurd HA.out (by simp [spec_RoundTo.j8])
                                    | succ kj28 =>
                                      have H := HA.out
                                      clear HA
                                      simp only [spec_RoundTo.j8] at H
                                      have HC31 := Aside0.mk H
                                      clear H
                                      go_upto_if 76 with (fail)
                                      go_cut [1, 2] (fun v1 v2 wc => ∃ (kq : Nat) (x1_30 : Int) (x2_30 : Int), v1 = .int .u64 x1_30 ∧ v2 = .int .i64 x2_30 ∧ Aside0 (spec_RoundTo.j9 kq a0 x1_30 x2_30 = some r) ∧ Aside0 (kq ≤ kj28) ∧ Drawn0 w wc)
                                      case first =>
                                        have H := HC31.out
                                        clear HC31
                                        by_cases c32 : x1_28 = 9007199254740992
                                        · rw [if_pos c32] at H
                                          have c32b0 : (x1_28 == 9007199254740992) = true := beq_iff_eq.mpr c32
                                          have c32b1 : (x1_28 != 9007199254740992) = false := bne_eq_false_iff_eq.mpr c32
                                          clear c32
                                          (first | rw [c32b0] | (simp only [i64_w, i32_w]; rw [c32b0]) | skip)
                                          have H' := Aside0.mk H
                                          clear H
                                          go_wp2
                                          go_meet
                                          case rel => exact ⟨_, (4503599627370496), (wrap64 (x2_5 + 1)), (by first | rfl | (simp; done) | (simp [*]; done)), (by first | rfl | (simp; done) | (simp [*]; done)), H', ⟨by have := HJ4.out; have := HJ6.out; have := HJ8.out; have := HJ13.out; have := HK5.out; have := HJ16.out; have := HJ25.out; have := HJ28.out; first | omega | exact Nat.le_refl _⟩, by repeat (first | exact Drawn0.refl _ | apply Drawn0.step)⟩
                                        · rw [if_neg c32] at H
                                          have c32b0 : (x1_28 == 9007199254740992) = false := beq_eq_false_iff_ne.mpr c32
                                          have c32b1 : (x1_28 != 9007199254740992) = true := bne_iff_ne.mpr c32
                                          (first | rw [c32b0] | (simp only [i64_w, i32_w]; rw [c32b0]) | skip)
                                          have H' := Aside0.mk H
                                          clear H
                                          go_wp2
                                          go_meet
                                          case rel => exact ⟨_, (x1_28), (x2_5), (by first | rfl | (simp; done) | (simp [*]; done)), (by first | rfl | (simp; done) | (simp [*]; done)), H', ⟨by have := HJ4.out; have := HJ6.out; have := HJ8.out; have := HJ13.out; have := HK5.out; have := HJ16.out; have := HJ25.out; have := HJ28.out; first | omega | exact Nat.le_refl _⟩, by repeat (first | exact Drawn0.refl _ | apply Drawn0.step)⟩
                                      case rest =>
                                        clear HC31
                                        try clear c1
                                        try clear c2
                                        try clear p2
                                        try clear c3
                                        try clear c4
                                        try clear c6
                                        try clear c6b0
                                        try clear p6
                                        try clear c8
                                        try clear c8b0
                                        try clear c10
                                        try clear c12
                                        try clear c12b0
                                        try clear c12b1
                                        try clear c13
                                        try clear c15
                                        try clear c15b0
                                        try clear c16
                                        try clear c16b0
                                        try clear c18
                                        try clear c18b0
                                        try clear c19
                                        try clear c20
                                        try clear c21
                                        try clear c21b0
                                        try clear c21b1
                                        try clear c22
                                        try clear c22b0
                                        try clear c23
                                        try clear c23b0
                                        try clear c23b1
                                        try clear c24
                                        try clear c24b0
                                        try clear c25
                                        try clear c27
                                        try clear c28
                                        try clear c30
                                        try clear c32
                                        try clear c32b0
                                        try clear c32b1
                                        try clear p2
                                        try clear p6
                                        obtain ⟨kq, x1_30, x2_30, rfl, rfl, HA, HJ30, ⟨mc30, rfl⟩⟩ := hcut
                                        cases kq with
                                        | zero => exact absurd HA.out (by simp [spec_RoundTo.j9])
                                        | succ kj30 =>
                                          have H := HA.out
                                          clear HA
                                          simp only [spec_RoundTo.j9] at H
                                          by_cases c33 : x1_30 < 4503599627370496
                                          · rw [if_pos c33] at H
                                            have c33b0 : decide (x1_30 < 4503599627370496) = true := decide_eq_true c33
                                            clear c33
                                            replace H := Option.bind_eq_some_iff.mp H
                                            obtain ⟨t154, A340, H⟩ := H
                                            replace H : (some t154) = some r := H
                                            have A34 := Aside0.mk A340
                                            clear A340
                                            obtain rfl := Option.some.inj H
                                            go_wp2_with (first | ((with_reducible refine gate_callee (f := 43) rfl ?_); refine goesL_ (some 83) rfl rfl Try.func43 (by kernel_rfl) rfl #[.int .u64 x1_30, .bool a0] rfl (by (try simp only [List.map_toArray, List.map_cons, List.map_nil]); first | done | rfl | (simp only [List.length_drop, List.length_take]; rfl)) ?_; (with_reducible refine (spec_l03Sign.calls kj30 x1_30 a0 t154 _ A34.out).mono ?_); rintro e w' ⟨rfl, ⟨nd, rfl⟩⟩; refine ⟨_, rfl, ?_⟩))
                                            go_ret
                                            exact ⟨by first | rfl | (simp; done) | (simp [*]; done), by repeat (first | exact Drawn0.refl _ | apply Drawn0.step)⟩
                                          · rw [if_neg c33] at H
                                            have c33b0 : decide (x1_30 < 4503599627370496) = false := decide_eq_false c33
                                            clear c33
                                            by_cases c35 : x2_30 > 971
                                            · rw [if_pos c35] at H
                                              have c35b0 : decide (971 < x2_30) = true := decide_eq_true c35
                                              clear c35
                                              replace H := Option.bind_eq_some_iff.mp H
                                              obtain ⟨t155, A360, H⟩ := H
                                              replace H : (some t155) = some r := H
                                              have A36 := Aside0.mk A360
                                              clear A360
                                              obtain rfl := Option.some.inj H
                                              go_wp2_with (first | ((with_reducible refine gate_callee (f := 43) rfl ?_); refine goesL_ (some 87) rfl rfl Try.func43 (by kernel_rfl) rfl #[.int .u64 9218868437227405312, .bool a0] rfl (by (try simp only [List.map_toArray, List.map_cons, List.map_nil]); first | done | rfl | (simp only [List.length_drop, List.length_take]; rfl)) ?_; (with_reducible refine (spec_l03Sign.calls kj30 9218868437227405312 a0 t155 _ A36.out).mono ?_); rintro e w' ⟨rfl, ⟨nd, rfl⟩⟩; refine ⟨_, rfl, ?_⟩))
                                              go_ret
                                              exact ⟨by first | rfl | (simp; done) | (simp [*]; done), by repeat (first | exact Drawn0.refl _ | apply Drawn0.step)⟩
                                            · rw [if_neg c35] at H
                                              have c35b0 : decide (971 < x2_30) = false := decide_eq_false c35
                                              clear c35
                                              replace H := Option.bind_eq_some_iff.mp H
                                              obtain ⟨t156, A370, H⟩ := H
                                              replace H : (some t156) = some r := H
                                              have A37 := Aside0.mk A370
                                              clear A370
                                              obtain rfl := Option.some.inj H
                                              go_wp2_with (first | ((with_reducible refine gate_callee (f := 43) rfl ?_); refine goesL_ (some 96) rfl rfl Try.func43 (by kernel_rfl) rfl #[.int .u64 (IntKind.u64.wrap ((IntKind.u64.wrap (x1_30 - 4503599627370496)) + (IntKind.u64.wrap ((IntKind.u64.wrap (wrap64 (x2_30 + 1075))) * 4503599627370496)))), .bool a0] rfl (by (try simp only [List.map_toArray, List.map_cons, List.map_nil]); first | done | rfl | (simp only [List.length_drop, List.length_take]; rfl)) ?_; (with_reducible refine (spec_l03Sign.calls kj30 (IntKind.u64.wrap ((IntKind.u64.wrap (x1_30 - 4503599627370496)) + (IntKind.u64.wrap ((IntKind.u64.wrap (wrap64 (x2_30 + 1075))) * 4503599627370496)))) a0 t156 _ A37.out).mono ?_); rintro e w' ⟨rfl, ⟨nd, rfl⟩⟩; refine ⟨_, rfl, ?_⟩))
                                              go_ret
                                              exact ⟨by first | rfl | (simp; done) | (simp [*]; done), by repeat (first | exact Drawn0.refl _ | apply Drawn0.step)⟩
end Go.Proofs.Ytokhgodcamhibaa.QFnExactDoBinary
end
