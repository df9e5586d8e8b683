/- Part 21 of the proof: general lemmas, contracts of functions, walks. No condition of its own. -/
import Derived.Test.YtcbaokflimdjnaaPV2
import Derived.Test.YtcbaokflimdjnaaPV18
import Derived.Test.YtcbaokflimdjnaaPV20
import Derived.Test.YtcbaokflimdjnaaPV11
import Derived.Test.YtcbaokflimdjnaaPV17
import Derived.Test.YtcbaokflimdjnaaPV7
section
namespace Go.Proofs.Ytcbaokflimdjnaa.Img
open Go.RowKit Go.Proofs.YtcbaokflimdjnaaW.PrintWords Go.Proofs.YtcbaokflimdjnaaW.PrintMore Go.Proofs.Ytcbaokflimdjnaa.QFnExactVerify Go.Proofs.Ytcbaokflimdjnaa.Num
set_option linter.unusedVariables false
set_option linter.unusedSimpArgs false
set_option autoImplicit false
theorem up {α : Type} {f : Nat → Option α} (hm : ∀ k, LeO (f k) (f (k + 1))) {k0 : Nat} {r : α} (h : f k0 = some r) {k : Nat} (hk : k0 ≤ k) : f k = some r := by
  obtain ⟨d, rfl⟩ : ∃ d, k = k0 + d := ⟨k - k0, by omega⟩
  clear hk
  induction d with
  | zero => exact h
  | succ d ih => exact hm (k0 + d) r ih
def inB (x lo hi : Int) : Bool := decide (lo ≤ x ∧ x ≤ hi)
theorem spec_in (x lo hi : Int) : spec_l01In.f x lo hi = some (inB x lo hi) := by
  unfold spec_l01In.f inB
  by_cases h : x ≥ lo
  · rw [if_pos h]
    by_cases h2 : x ≤ hi
    · rw [decide_eq_true h2, decide_eq_true ⟨h, h2⟩]
    · rw [decide_eq_false h2, decide_eq_false (fun e => h2 e.2)]
  · rw [if_neg h, decide_eq_false (fun e => h e.1)]
theorem impl_in (x lo hi : Int) : impl_within.f x lo hi = some (inB x lo hi) := spec_in x lo hi
theorem pow63 : spec_l03Pow.f 100 63 = some 9223372036854775808 := by decide +kernel
theorem spec_parts {x : Int} (h0 : 0 ≤ x) (h1 : x < 18446744073709551616) : spec_PartsOfNumber.f 100 x = some (PN x) := by
  unfold spec_PartsOfNumber.f
  have hq := Int.emod_lt_of_pos x (show (0 : Int) < 4503599627370496 by omega)
  have hq0 := Int.emod_nonneg x (show (4503599627370496 : Int) ≠ 0 by omega)
  have e1 : wrap64 (Int.tmod (IntKind.u64.wrap (Int.tdiv x 4503599627370496)) 2048) = x / 4503599627370496 % 2048 := by
    rw [tdiv_pos h0, u64_id (by omega) (by omega), tmod_pos (by omega), wrap64_id (by omega) (by omega)]
  have e2 : Int.tmod x 4503599627370496 = x % 4503599627370496 := tmod_pos h0
  have e3 : IntKind.u64.wrap (Int.tdiv x 9223372036854775808) = x / 9223372036854775808 := by rw [tdiv_pos h0, u64_id (by omega) (by omega)]
  rw [pow63]
  simp only [Option.bind_some, e1, e2, e3]
  rw [if_neg (by omega)]
  unfold PN
  by_cases h2 : x / 4503599627370496 % 2048 = 2047
  · rw [if_pos h2, if_pos h2]
    by_cases h3 : x % 4503599627370496 = 0
    · simp only [spec_PartsOfNumber.j0, h3, bne_self_eq_false, Bool.false_eq_true, if_false, h2, if_true]
    · simp only [spec_PartsOfNumber.j0, (bne_iff_ne.mpr h3), if_true, if_neg h3]
  · rw [if_neg h2, if_neg h2]
    by_cases h4 : x / 4503599627370496 % 2048 = 0
    · by_cases h3 : x % 4503599627370496 = 0
      · simp [spec_PartsOfNumber.j0, spec_PartsOfNumber.j1, h4, h3]
      · simp [spec_PartsOfNumber.j0, spec_PartsOfNumber.j1, h4, h3]
    · rw [if_neg h4]
      simp only [spec_PartsOfNumber.j0, spec_PartsOfNumber.j1, Bool.false_eq_true, if_false, if_neg h2, if_neg h4]
      rw [u64_id (by omega) (by omega), wrap64_id (by omega) (by omega)]
theorem spec_nan {x : Int} (h0 : 0 ≤ x) (h1 : x < 18446744073709551616) : spec_l03Nan.f 100 x = some (isNan x) := by
  unfold spec_l03Nan.f
  rw [spec_parts h0 h1]
  simp only [Option.bind_some]
  rw [PN_nan h0]
theorem impl_nan {x : Int} (h0 : 0 ≤ x) (h1 : x < 18446744073709551616) : impl_isNaN.f x = some (isNan x) := by
  unfold impl_isNaN.f isNan
  rw [and_63 h0 h1]
theorem drop_rd {α : Type} (z : α) (l : List α) {j : Nat} (h : j < l.length) : l.drop j = l.getD j z :: l.drop (j + 1) := by
  rw [List.getD_eq_getElem?_getD, List.getElem?_eq_getElem h]
  exact List.drop_eq_getElem_cons h
/-- Of a constant. -/
def constB (x : S100) : Bool :=
  if x.f0 = 1 then (x.f2.toList == ([] : List UInt8)) && (!isNan x.f1 || x.f1 == 9221120237041090560)
  else if x.f0 = 2 then x.f1 == 0 && decide ((x.f2.size : Int) ≤ 40)
  else if x.f0 = 3 ∨ x.f0 = 4 ∨ x.f0 = 5 then x.f1 == 0 && (x.f2.toList == ([] : List UInt8)) else false
theorem beq_nil (l : List UInt8) : (l == ([] : List UInt8)) = decide (l = []) := by cases l <;> rfl
theorem spec_const (x : S100) (h0 : 0 ≤ x.f1) (h1 : x.f1 < 18446744073709551616) {k : Nat} (hk : 100 ≤ k) : spec_ConstOk.f k x.f0 x.f1 x.f2 = some (constB x) := by
  have hn : spec_l03Nan.f k x.f1 = some (isNan x.f1) := up (f := fun k => spec_l03Nan.f k x.f1) (fun k => spec_l03Nan.mono x.f1 k) (spec_nan h0 h1) hk
  unfold spec_ConstOk.f constB
  rw [hn]
  by_cases k1 : x.f0 = 1
  · rw [if_pos k1, if_pos k1, Option.bind_some, beq_nil]
    by_cases ht : x.f2.toList = []
    · rw [if_pos ht, decide_eq_true ht]
      cases isNan x.f1 <;> simp
    · rw [if_neg ht, decide_eq_false ht]; rfl
  · by_cases k2 : x.f0 = 2
    · by_cases hz : x.f1 = 0 <;> simp [k2, hz]
    · by_cases hz : x.f1 = 0 <;> by_cases k3 : x.f0 = 3 <;> by_cases k4 : x.f0 = 4 <;> by_cases k5 : x.f0 = 5 <;> simp [k1, k2, k3, k4, k5, hz]
theorem impl_const (x : S100) (h0 : 0 ≤ x.f1) (h1 : x.f1 < 18446744073709551616) : impl_ConstOk.f x.f0 x.f1 x.f2 = some (constB x) := by
  unfold impl_ConstOk.f constB
  rw [impl_nan h0 h1]
  by_cases k1 : x.f0 = 1
  · rw [if_pos k1, if_pos k1, Option.bind_some, beq_nil]
    cases isNan x.f1
    · simp
    · by_cases hz : x.f1 = 9221120237041090560 <;> simp [hz]
  · by_cases k2 : x.f0 = 2
    · by_cases hl : (x.f2.size : Int) ≤ 40
      · rw [if_neg k1, if_pos k2, if_pos hl, if_neg k1, if_pos k2, decide_eq_true hl, Bool.and_true]
      · rw [if_neg k1, if_pos k2, if_neg hl, if_neg k1, if_pos k2, decide_eq_false hl, Bool.and_false]
    · by_cases hz : x.f1 = 0 <;> by_cases k3 : x.f0 = 3 <;> by_cases k4 : x.f0 = 4 <;> by_cases k5 : x.f0 = 5 <;> simp [k1, k2, k3, k4, k5, hz]
def capB (x : S105) : Bool := inB x.f1 0 40
def insB (x : S76) : Bool := inB x.f0 1 19 && (inB x.f1 0 300 && inB x.f2 0 300)
def hdB (x : S107) : Bool := inB x.f0 0 300 && (inB x.f1 0 300 && inB x.f2 0 300)
theorem rdC (l : List S105) (j : Nat) : rd_T105 l (j : Int) = l.getD j z105 := by simp [rd_T105]
theorem rdI (l : List S76) (j : Nat) : rd_T76 l (j : Int) = l.getD j z76 := by simp [rd_T76]
theorem rdH (l : List S107) (j : Nat) : rd_T107 l (j : Int) = l.getD j z107 := by simp [rd_T107]
theorem rdF (l : List S73) (j : Nat) : rd_T73 l (j : Int) = l.getD j z73 := by simp [rd_T73]
theorem rdK (l : List S100) (j : Nat) : rd_T100 l (j : Int) = l.getD j z100 := by simp [rd_T100]
theorem rdF0 (l : List S73) : rd_T73 l 0 = l.getD 0 z73 := by simp [rd_T73]
theorem w1 {j : Nat} (h : j ≤ 1000000) : wrap64 ((j : Int) + 1) = ((j + 1 : Nat) : Int) := by unfold wrap64; omega
section
variable (p r : Int) (cs : List S105) (co : List S76) (hs : List S107)
theorem s_l2 (hl : hs.length ≤ 1000) : ∀ (d k j : Nat), j + d = hs.length → d < k → spec_l13Func.l2 k j p r cs co hs = some ((hs.drop j).all hdB)
  | d, 0, j, _, h => absurd h (by omega)
  | 0, k + 1, j, hd, _ => by
    rw [spec_l13Func.l2, if_neg (by omega), List.drop_eq_nil_of_le (by omega)]
    rfl
  | d + 1, k + 1, j, hd, hk => by
    have hj : j < hs.length := by omega
    have ih := s_l2 hl d k (j + 1) (by omega) (by omega)
    rw [spec_l13Func.l2, if_pos (by omega), if_pos (by omega), rdH, spec_in, Option.bind_some, spec_in, Option.bind_some, spec_in, Option.bind_some, w1 (by omega), ih, drop_rd z107 hs hj, List.all_cons]
    generalize hs.getD j z107 = x
    unfold hdB
    cases inB x.f0 0 300 <;> cases inB x.f1 0 300 <;> cases inB x.f2 0 300 <;> simp
theorem s_l1 (hl : hs.length ≤ 1000) (hc : co.length ≤ 1000) : ∀ (d k j : Nat), j + d = co.length → d + hs.length + 1 < k → spec_l13Func.l1 k j p r cs co hs = some ((co.drop j).all insB && hs.all hdB)
  | d, 0, j, _, h => absurd h (by omega)
  | 0, k + 1, j, hd, hk => by
    rw [spec_l13Func.l1, if_neg (by omega), List.drop_eq_nil_of_le (by omega), show (0 : Int) = ((0 : Nat) : Int) from rfl, s_l2 p r cs co hs hl hs.length k 0 (by omega) (by omega)]
    rfl
  | d + 1, k + 1, j, hd, hk => by
    have hj : j < co.length := by omega
    have ih := s_l1 hl hc d k (j + 1) (by omega) (by omega)
    rw [spec_l13Func.l1, if_pos (by omega), if_pos (by omega), rdI, spec_in, Option.bind_some, spec_in, Option.bind_some, spec_in, Option.bind_some, w1 (by omega), ih, drop_rd z76 co hj, List.all_cons]
    generalize co.getD j z76 = x
    unfold insB
    cases inB x.f0 1 19 <;> cases inB x.f1 0 300 <;> cases inB x.f2 0 300 <;> simp
theorem s_l0 (hl : hs.length ≤ 1000) (hc : co.length ≤ 1000) (ha : cs.length ≤ 1000) : ∀ (d k j : Nat), j + d = cs.length → d + co.length + hs.length + 2 < k → spec_l13Func.l0 k j p r cs co hs = some ((cs.drop j).all capB && (co.all insB && hs.all hdB))
  | d, 0, j, _, h => absurd h (by omega)
  | 0, k + 1, j, hd, hk => by
    rw [spec_l13Func.l0, if_neg (by omega), List.drop_eq_nil_of_le (by omega), show (0 : Int) = ((0 : Nat) : Int) from rfl, s_l1 p r cs co hs hl hc co.length k 0 (by omega) (by omega)]
    rfl
  | d + 1, k + 1, j, hd, hk => by
    have hj : j < cs.length := by omega
    have ih := s_l0 hl hc ha d k (j + 1) (by omega) (by omega)
    rw [spec_l13Func.l0, if_pos (by omega), if_pos (by omega), rdC, spec_in, Option.bind_some, w1 (by omega), ih, drop_rd z105 cs hj, List.all_cons]
    generalize cs.getD j z105 = x
    unfold capB
    cases inB x.f1 0 40 <;> simp
/-- Of a Func. -/
def funcB : Bool := inB p 0 4 && (inB r p 40 && (decide (cs.length ≤ 20) && (inB co.length 1 300 && (decide (hs.length ≤ 40) && (cs.all capB && (co.all insB && hs.all hdB))))))
theorem spec_func {k : Nat} (hk : 500 ≤ k) : spec_l13Func.f k p r cs co hs = some (funcB p r cs co hs) := by
  obtain ⟨k, rfl⟩ : ∃ q, k = q + 1 := ⟨k - 1, by omega⟩
  unfold spec_l13Func.f funcB
  rw [spec_in, Option.bind_some, spec_in, Option.bind_some, spec_in, Option.bind_some]
  have jt : spec_l13Func.j0 (k + 1) true p r cs co hs = some false := by rw [spec_l13Func.j0, if_pos rfl]
  rw [jt]
  cases inB p 0 4
  · simp
  cases inB r p 40
  · simp
  by_cases hc : (cs.length : Int) > 20
  · simp [hc, show ¬ cs.length ≤ 20 by omega]
  by_cases hco : inB co.length 1 300 = true
  rotate_left
  · simp [hc, hco]
  have hcl : co.length ≤ 300 := by have := of_decide_eq_true hco; omega
  by_cases hh : (hs.length : Int) > 40
  · simp [hc, hco, hh, jt, show ¬ hs.length ≤ 40 by omega]
  have e := s_l0 p r cs co hs (by omega) (by omega) (by omega) cs.length k 0 (by omega) (by omega)
  have jf : spec_l13Func.j0 (k + 1) false p r cs co hs = some (cs.all capB && (co.all insB && hs.all hdB)) := by rw [spec_l13Func.j0, if_neg (by decide)]; exact e
  simp [hc, hco, hh, jf, show cs.length ≤ 20 by omega, show hs.length ≤ 40 by omega]
theorem i_l2 (hl : hs.length ≤ 1000) : ∀ (d k j : Nat), j + d = hs.length → d < k → impl_funcOk.l2 k hs hs.length j = some ((hs.drop j).all hdB)
  | d, 0, j, _, h => absurd h (by omega)
  | 0, k + 1, j, hd, _ => by
    rw [impl_funcOk.l2, if_neg (by omega), List.drop_eq_nil_of_le (by omega)]
    rfl
  | d + 1, k + 1, j, hd, hk => by
    have hj : j < hs.length := by omega
    have ih := i_l2 hl d k (j + 1) (by omega) (by omega)
    rw [impl_funcOk.l2, if_pos (by omega), if_pos (by omega), if_pos (by omega), rdH, impl_in, Option.bind_some, impl_in, Option.bind_some, impl_in, Option.bind_some, w1 (by omega), ih, drop_rd z107 hs hj, List.all_cons]
    generalize hs.getD j z107 = x
    unfold hdB
    cases inB x.f0 0 300 <;> cases inB x.f1 0 300 <;> cases inB x.f2 0 300 <;> simp
theorem i_l1 (hl : hs.length ≤ 1000) (hc : co.length ≤ 1000) : ∀ (d k j : Nat), j + d = co.length → d + hs.length + 1 < k → impl_funcOk.l1 k co co.length j p r cs co hs = some ((co.drop j).all insB && hs.all hdB)
  | d, 0, j, _, h => absurd h (by omega)
  | 0, k + 1, j, hd, hk => by
    rw [impl_funcOk.l1, if_neg (by omega), List.drop_eq_nil_of_le (by omega), show (0 : Int) = ((0 : Nat) : Int) from rfl, i_l2 hs hl hs.length k 0 (by omega) (by omega)]
    rfl
  | d + 1, k + 1, j, hd, hk => by
    have hj : j < co.length := by omega
    have ih := i_l1 hl hc d k (j + 1) (by omega) (by omega)
    rw [impl_funcOk.l1, if_pos (by omega), if_pos (by omega), if_pos (by omega), rdI, impl_in, Option.bind_some, impl_in, Option.bind_some, impl_in, Option.bind_some, w1 (by omega), ih, drop_rd z76 co hj, List.all_cons]
    generalize co.getD j z76 = x
    unfold insB
    cases inB x.f0 1 19 <;> cases inB x.f1 0 300 <;> cases inB x.f2 0 300 <;> simp
theorem i_l0 (hl : hs.length ≤ 1000) (hc : co.length ≤ 1000) (ha : cs.length ≤ 1000) : ∀ (d k j : Nat), j + d = cs.length → d + co.length + hs.length + 2 < k → impl_funcOk.l0 k cs cs.length j p r cs co hs = some ((cs.drop j).all capB && (co.all insB && hs.all hdB))
  | d, 0, j, _, h => absurd h (by omega)
  | 0, k + 1, j, hd, hk => by
    rw [impl_funcOk.l0, if_neg (by omega), List.drop_eq_nil_of_le (by omega), show (0 : Int) = ((0 : Nat) : Int) from rfl, i_l1 p r cs co hs hl hc co.length k 0 (by omega) (by omega)]
    rfl
  | d + 1, k + 1, j, hd, hk => by
    have hj : j < cs.length := by omega
    have ih := i_l0 hl hc ha d k (j + 1) (by omega) (by omega)
    rw [impl_funcOk.l0, if_pos (by omega), if_pos (by omega), if_pos (by omega), rdC, impl_in, Option.bind_some, w1 (by omega), ih, drop_rd z105 cs hj, List.all_cons]
    generalize cs.getD j z105 = x
    unfold capB
    cases inB x.f1 0 40 <;> simp
theorem impl_func {k : Nat} (hk : 500 ≤ k) : impl_funcOk.f k p r cs co hs = some (funcB p r cs co hs) := by
  obtain ⟨k, rfl⟩ : ∃ q, k = q + 1 := ⟨k - 1, by omega⟩
  unfold impl_funcOk.f funcB
  rw [impl_in, Option.bind_some, impl_in, Option.bind_some, impl_in, Option.bind_some]
  have jt : impl_funcOk.j0 (k + 1) true p r cs co hs = some false := by rw [impl_funcOk.j0, if_pos rfl]
  rw [jt]
  cases inB p 0 4
  · simp
  cases inB r p 40
  · simp
  by_cases hc : (cs.length : Int) > 20
  · simp [hc, show ¬ cs.length ≤ 20 by omega]
  by_cases hco : inB co.length 1 300 = true
  rotate_left
  · simp [hc, hco]
  have hcl : co.length ≤ 300 := by have := of_decide_eq_true hco; omega
  by_cases hh : (hs.length : Int) > 40
  · simp [hc, hco, hh, jt, show ¬ hs.length ≤ 40 by omega]
  have e := i_l0 p r cs co hs (by omega) (by omega) (by omega) cs.length k 0 (by omega) (by omega)
  have jf : impl_funcOk.j0 (k + 1) false p r cs co hs = some (cs.all capB && (co.all insB && hs.all hdB)) := by rw [impl_funcOk.j0, if_neg (by decide)]; exact e
  simp [hc, hco, hh, jf, show cs.length ≤ 20 by omega, show hs.length ≤ 40 by omega]
end
def fB (x : S73) : Bool := funcB x.f0 x.f1 x.f2 x.f3 x.f4
/-- Of an image. -/
def imageB (fs : List S73) (cs : List S100) : Bool :=
  inB fs.length 1 16 && (decide (cs.length ≤ 40) && (cs.all constB && (fs.all fB && (decide ((fs.getD 0 z73).f0 = 0) && decide ((fs.getD 0 z73).f2.length = 0)))))
section
variable (fs : List S73) (cs : List S100) (hn : ∀ x ∈ cs, 0 ≤ x.f1 ∧ x.f1 < 18446744073709551616)
include hn
def lastB (fs : List S73) : Bool := decide ((fs.getD 0 z73).f0 = 0) && decide ((fs.getD 0 z73).f2.length = 0)
omit hn in
theorem S_l1 (h0 : 0 < fs.length) (hf : fs.length ≤ 1000) : ∀ (d k j : Nat), j + d = fs.length → d + 500 < k → spec_ImageOk.l1 k j fs cs = some ((fs.drop j).all fB && lastB fs)
  | d, 0, j, _, h => absurd h (by omega)
  | 0, k + 1, j, hd, hk => by
    rw [spec_ImageOk.l1, if_neg (by omega), List.drop_eq_nil_of_le (by omega), if_pos (by omega), rdF0]
    unfold lastB
    generalize fs.getD 0 z73 = y
    by_cases h1 : y.f0 = 0
    · rw [if_pos h1, decide_eq_true h1]
      by_cases h2 : y.f2.length = 0
      · rw [decide_eq_true h2]
        have h3 : y.f2 = [] := List.length_eq_zero_iff.mp h2
        simp [h3]
      · rw [decide_eq_false h2]
        have h3 : y.f2 ≠ [] := fun e => h2 (by rw [e]; rfl)
        simp [h3]
    · rw [if_neg h1, decide_eq_false h1]; rfl
  | d + 1, k + 1, j, hd, hk => by
    have hj : j < fs.length := by omega
    have ih := S_l1 h0 hf d k (j + 1) (by omega) (by omega)
    rw [spec_ImageOk.l1, if_pos (by omega), if_pos (by omega), rdF, spec_func _ _ _ _ _ (by omega), Option.bind_some, w1 (by omega), ih, drop_rd z73 fs hj, List.all_cons]
    show (if fB (fs.getD j z73) = true then _ else _) = _
    cases fB (fs.getD j z73) <;> simp
theorem S_l0 (h0 : 0 < fs.length) (hf : fs.length ≤ 1000) (hc : cs.length ≤ 1000) : ∀ (d k j : Nat), j + d = cs.length → d + fs.length + 501 < k → spec_ImageOk.l0 k j fs cs = some ((cs.drop j).all constB && (fs.all fB && lastB fs))
  | d, 0, j, _, h => absurd h (by omega)
  | 0, k + 1, j, hd, hk => by
    rw [spec_ImageOk.l0, if_neg (by omega), List.drop_eq_nil_of_le (by omega), show (0 : Int) = ((0 : Nat) : Int) from rfl, S_l1 fs cs h0 hf fs.length k 0 (by omega) (by omega)]
    rfl
  | d + 1, k + 1, j, hd, hk => by
    have hj : j < cs.length := by omega
    have ih := S_l0 h0 hf hc d k (j + 1) (by omega) (by omega)
    have hx := hn (cs.getD j z100) (by rw [List.getD_eq_getElem?_getD, List.getElem?_eq_getElem hj]; exact List.getElem_mem hj)
    rw [spec_ImageOk.l0, if_pos (by omega), if_pos (by omega), rdK, spec_const _ hx.1 hx.2 (by omega), Option.bind_some, w1 (by omega), ih, drop_rd z100 cs hj, List.all_cons]
    cases constB (cs.getD j z100) <;> simp
theorem spec_image {k : Nat} (hk : 700 ≤ k) : spec_ImageOk.f k fs cs = some (imageB fs cs) := by
  obtain ⟨k, rfl⟩ : ∃ q, k = q + 1 := ⟨k - 1, by omega⟩
  unfold spec_ImageOk.f imageB
  rw [spec_in, Option.bind_some]
  have jt : spec_ImageOk.j0 (k + 1) true fs cs = some false := by rw [spec_ImageOk.j0, if_pos rfl]
  by_cases h1 : inB fs.length 1 16 = true
  rotate_left
  · simp [h1, jt]
  have hf := of_decide_eq_true h1
  by_cases hc : (cs.length : Int) > 40
  · simp [h1, hc, jt, show ¬ cs.length ≤ 40 by omega]
  have e := S_l0 fs cs hn (by omega) (by omega) (by omega) cs.length k 0 (by omega) (by omega)
  have jf : spec_ImageOk.j0 (k + 1) false fs cs = some (cs.all constB && (fs.all fB && lastB fs)) := by rw [spec_ImageOk.j0, if_neg (by decide)]; exact e
  unfold lastB at jf
  simp [h1, hc, jf, show cs.length ≤ 40 by omega]
omit hn in
theorem I_l1 (hf : fs.length ≤ 1000) : ∀ (d k j : Nat), j + d = fs.length → d + 500 < k → impl_ImageOk.l1 k fs fs.length j = some ((fs.drop j).all fB)
  | d, 0, j, _, h => absurd h (by omega)
  | 0, k + 1, j, hd, hk => by
    rw [impl_ImageOk.l1, if_neg (by omega), List.drop_eq_nil_of_le (by omega)]
    rfl
  | d + 1, k + 1, j, hd, hk => by
    have hj : j < fs.length := by omega
    have ih := I_l1 hf d k (j + 1) (by omega) (by omega)
    rw [impl_ImageOk.l1, if_pos (by omega), if_pos (by omega), if_pos (by omega), rdF, impl_func _ _ _ _ _ (by omega), Option.bind_some, w1 (by omega), ih, drop_rd z73 fs hj, List.all_cons]
    show (if fB (fs.getD j z73) = true then _ else _) = _
    cases fB (fs.getD j z73) <;> simp
theorem I_l0 (hf : fs.length ≤ 1000) (hc : cs.length ≤ 1000) : ∀ (d k j : Nat), j + d = cs.length → d + fs.length + 501 < k → impl_ImageOk.l0 k cs cs.length j fs cs = some ((cs.drop j).all constB && fs.all fB)
  | d, 0, j, _, h => absurd h (by omega)
  | 0, k + 1, j, hd, hk => by
    rw [impl_ImageOk.l0, if_neg (by omega), List.drop_eq_nil_of_le (by omega), show (0 : Int) = ((0 : Nat) : Int) from rfl, I_l1 fs hf fs.length k 0 (by omega) (by omega)]
    rfl
  | d + 1, k + 1, j, hd, hk => by
    have hj : j < cs.length := by omega
    have ih := I_l0 hf hc d k (j + 1) (by omega) (by omega)
    have hx := hn (cs.getD j z100) (by rw [List.getD_eq_getElem?_getD, List.getElem?_eq_getElem hj]; exact List.getElem_mem hj)
    rw [impl_ImageOk.l0, if_pos (by omega), if_pos (by omega), if_pos (by omega), rdK, impl_const _ hx.1 hx.2, Option.bind_some, w1 (by omega), ih, drop_rd z100 cs hj, List.all_cons]
    cases constB (cs.getD j z100) <;> simp
theorem impl_image {k : Nat} (hk : 700 ≤ k) : impl_ImageOk.f k fs cs = some (imageB fs cs) := by
  obtain ⟨k, rfl⟩ : ∃ q, k = q + 1 := ⟨k - 1, by omega⟩
  unfold impl_ImageOk.f imageB
  rw [impl_in, Option.bind_some, rdF0]
  have jt : impl_ImageOk.j0 (k + 1) true fs cs = some false := by rw [impl_ImageOk.j0, if_pos rfl]
  by_cases h1 : inB fs.length 1 16 = true
  rotate_left
  · simp [h1, jt]
  have hf := of_decide_eq_true h1
  by_cases hc : (cs.length : Int) > 40
  · simp [h1, hc, jt, show ¬ cs.length ≤ 40 by omega]
  have e := I_l0 fs cs hn (by omega) (by omega) cs.length k 0 (by omega) (by omega)
  have jf : impl_ImageOk.j0 (k + 1) false fs cs = some (cs.all constB && fs.all fB) := by rw [impl_ImageOk.j0, if_neg (by decide)]; exact e
  rw [if_pos h1, if_neg hc, if_pos (by omega), h1, decide_eq_true (show cs.length ≤ 40 by omega)]
  generalize fs.getD 0 z73 = y
  by_cases h2 : y.f0 = 0
  · rw [if_pos h2, decide_eq_true h2]
    by_cases h3 : y.f2.length = 0
    · rw [decide_eq_false (by omega), jf, decide_eq_true h3]; simp
    · rw [decide_eq_true (by omega), jt, decide_eq_false h3]; simp
  · rw [if_neg h2, jt, decide_eq_false h2]; simp
end
end Go.Proofs.Ytcbaokflimdjnaa.Img
end
section
namespace Go.Proofs.Ytcbaokflimdjnaa
open Go.RowKit Go.Proofs.YtcbaokflimdjnaaW.PrintWords Go.Proofs.YtcbaokflimdjnaaW.PrintMore Go.Proofs.Ytcbaokflimdjnaa.QFnExactVerify
set_option linter.unusedVariables false
set_option linter.unusedSimpArgs false
set_option autoImplicit false
theorem C_map {α β : Type} {d : Kd α} {e : Kd β} (f : α → β) (hsz : d.sz = e.sz) (h : ∀ w x cs, d.K w x cs → e.K w (f x) cs) {w : World} {A : Option Addr} {l : List α} (hc : d.C w A l.length l) : e.C w A (l.map f).length (l.map f) := by
  refine ⟨rfl, by rw [List.length_map]; exact hc.2.1, fun hn => ?_⟩
  obtain ⟨ad, e1, hh⟩ := hc.2.2 (by rw [List.length_map] at hn; exact hn)
  refine ⟨ad, e1, fun j p hp => ?_⟩
  rw [List.getElem?_map] at hp
  cases hq : l[j]? with
  | none => rw [hq] at hp; cases hp
  | some q =>
    rw [hq] at hp
    obtain rfl : f q = p := by simpa using hp
    obtain ⟨c, h1, h2, h3⟩ := hh j q hq
    exact ⟨c, by rw [h1, hsz], h _ _ _ h2, by rw [← hsz]; exact h3⟩
def sCap (x : Cap) : S105 := ⟨x.reg, x.index⟩
def sIns (x : Ins) : S76 := ⟨x.op, x.a, x.b⟩
def sHandler (x : Handler) : S107 := ⟨x.from_, x.to_, x.target⟩
def sConst (x : Const) : S100 := ⟨x.kind, x.num, x.text⟩
def sFunc (x : Func) : S73 := ⟨x.params, x.regs, x.caps.map sCap, x.code.map sIns, x.handlers.map sHandler⟩
theorem sCap_K (w : World) (x : Cap) (cs : List Value) (h : kCap.K w x cs) : k105.K w (sCap x) cs := by
  have e := kCap_open h
  subst e
  exact k105_mk w (sCap x)
theorem sIns_K (w : World) (x : Ins) (cs : List Value) (h : kIns.K w x cs) : k76.K w (sIns x) cs := by
  have e := kIns_open h
  subst e
  exact k76_mk w (sIns x)
theorem sHandler_K (w : World) (x : Handler) (cs : List Value) (h : kHandler.K w x cs) : k107.K w (sHandler x) cs := by
  have e := kHandler_open h
  subst e
  exact k107_mk w (sHandler x)
theorem sConst_K (w : World) (x : Const) (cs : List Value) (h : kConst.K w x cs) : k100.K w (sConst x) cs := by
  have e := kConst_open h
  subst e
  exact k100_mk w (sConst x)
theorem sFunc_K (w : World) (x : Func) (cs : List Value) (h : kFuncI.K w x cs) : k73.K w (sFunc x) cs := by
  obtain ⟨A2, c2, A3, c3, A4, c4, rfl, l2, g2, l3, g3, l4, g4⟩ := kFuncI_open h
  have e2 : (sFunc x).f2.length = x.caps.length := List.length_map _
  have e3 : (sFunc x).f3.length = x.code.length := List.length_map _
  have e4 : (sFunc x).f4.length = x.handlers.length := List.length_map _
  have k := k73_mk w (sFunc x) (A2 := A2) (c2 := c2) (by rw [e2]; exact l2) (C_map sCap rfl sCap_K g2) (A3 := A3) (c3 := c3) (by rw [e3]; exact l3) (C_map sIns rfl sIns_K g3) (A4 := A4) (c4 := c4) (by rw [e4]; exact l4) (C_map sHandler rfl sHandler_K g4)
  rw [e2, e3, e4] at k
  exact k
/-- Of an image as read. -/
def imgB (x : Image) : Bool := Img.imageB (x.funcs.map sFunc) (x.consts.map sConst)
theorem num_map {x : Image} (hn : ∀ y ∈ x.consts, 0 ≤ y.num ∧ y.num < 18446744073709551616) : ∀ y ∈ x.consts.map sConst, 0 ≤ y.f1 ∧ y.f1 < 18446744073709551616 := by
  intro y hy
  obtain ⟨z, hz, rfl⟩ := List.mem_map.1 hy
  exact hn z hz
theorem cImageOkS (x : Image) (A0 : Option Addr) (c0 : Nat) (A1 : Option Addr) (c1 : Nat) (w : World) (l0 : x.funcs.length ≤ c0) (g0 : kFuncI.C w A0 x.funcs.length x.funcs) (l1 : x.consts.length ≤ c1) (g1 : kConst.C w A1 x.consts.length x.consts) (hn : ∀ y ∈ x.consts, 0 ≤ y.num ∧ y.num < 18446744073709551616) :
    Calls Try.prog 52 #[.agg #[.slice A0 x.funcs.length c0, .slice A1 x.consts.length c1]] w fun e w' => e = .returned (.bool (imgB x)) ∧ Below w.heap.size w w' := by
  have C := spec_ImageOk.calls 700 A0 c0 (x.funcs.map sFunc) A1 c1 (x.consts.map sConst) (imgB x) w (C_map sFunc rfl sFunc_K g0) (by rw [List.length_map]; exact l0) (C_map sConst rfl sConst_K g1) (by rw [List.length_map]; exact l1) (Img.spec_image _ _ (num_map hn) (Nat.le_refl _))
  rw [List.length_map, List.length_map] at C
  exact C
theorem cImageOkI (x : Image) (A0 : Option Addr) (c0 : Nat) (A1 : Option Addr) (c1 : Nat) (w : World) (l0 : x.funcs.length ≤ c0) (g0 : kFuncI.C w A0 x.funcs.length x.funcs) (l1 : x.consts.length ≤ c1) (g1 : kConst.C w A1 x.consts.length x.consts) (hn : ∀ y ∈ x.consts, 0 ≤ y.num ∧ y.num < 18446744073709551616) :
    Calls Try.prog 59 #[.agg #[.slice A0 x.funcs.length c0, .slice A1 x.consts.length c1]] w fun e w' => e = .returned (.bool (imgB x)) ∧ Below w.heap.size w w' := by
  have C := impl_ImageOk.calls 700 A0 c0 (x.funcs.map sFunc) A1 c1 (x.consts.map sConst) (imgB x) w (C_map sFunc rfl sFunc_K g0) (by rw [List.length_map]; exact l0) (C_map sConst rfl sConst_K g1) (by rw [List.length_map]; exact l1) (Img.impl_image _ _ (num_map hn) (Nat.le_refl _))
  rw [List.length_map, List.length_map] at C
  exact C
/-- What a right image's functions are. -/
theorem img_len {x : Image} (h : imgB x = true) : 1 ≤ x.funcs.length ∧ x.funcs.length ≤ 16 ∧ x.consts.length ≤ 40 := by
  unfold imgB Img.imageB Img.inB at h
  simp only [List.length_map, Bool.and_eq_true, decide_eq_true_eq] at h
  omega
theorem img_func {x : Image} (h : imgB x = true) {f : Func} (hf : f ∈ x.funcs) : Img.fB (sFunc f) = true := by
  unfold imgB Img.imageB at h
  simp only [Bool.and_eq_true, List.all_eq_true] at h
  exact h.2.2.2.1 _ (List.mem_map_of_mem hf)
end Go.Proofs.Ytcbaokflimdjnaa
end
section
namespace Go.Proofs.Ytcbaokflimdjnaa.Flow
open Go.Proofs.Ytcbaokflimdjnaa Go.Proofs.Ytcbaokflimdjnaa.PureJoin
set_option linter.unusedVariables false
set_option linter.unusedSimpArgs false
/-- A register holds what is wanted. -/
def regIs (s : State) (r v : Int) : Bool := decide (0 ≤ r ∧ r ≤ (s.regs.length : Int) - 1) && (el 0 s.regs r.toNat == v)
def room (s : State) (r : Int) : Bool := decide (0 ≤ r ∧ r ≤ (s.regs.length : Int) - 1)
def capB (f : Func) (s : State) (c : Cap) : Bool := if c.reg = true then regIs s c.index 2 else decide (c.index < (f.caps.length : Int))
def capsTo (f : Func) (s : State) (cs : List Cap) : Nat → Bool
  | 0 => true
  | j + 1 => capsTo f s cs j && capB f s (el zCap cs j)
def argsTo (s : State) (a : Int) : Nat → Bool
  | 0 => true
  | j + 1 => argsTo s a j && regIs s (a + j) 1
def mayB (x : Image) (f : Func) (i : Ins) (s : State) : Bool :=
  if i.op = 1 then decide (i.a < (x.consts.length : Int))
  else if i.op = 2 then regIs s i.a 1
  else if i.op = 3 then room s i.a && (s.acc == 1)
  else if i.op = 4 then room s i.a && (s.acc == 1)
  else if i.op = 5 then regIs s i.a 2
  else if i.op = 6 then regIs s i.a 2 && (s.acc == 1)
  else if i.op = 7 then decide (i.a < (f.caps.length : Int))
  else if i.op = 8 then decide (i.a < (f.caps.length : Int)) && (s.acc == 1)
  else if i.op = 9 then (decide (1 ≤ i.a ∧ i.a ≤ 11) && regIs s i.b 1) && (s.acc == 1)
  else if i.op = 12 then decide (i.a < (f.code.length : Int))
  else if i.op = 13 then decide (i.a < (f.code.length : Int)) && (s.acc == 1)
  else if i.op = 14 then decide (i.a < (f.code.length : Int)) && (s.acc == 1)
  else if i.op = 15 then decide (1 ≤ i.a ∧ i.a ≤ (x.funcs.length : Int) - 1) && capsTo f s (el zFunc x.funcs i.a.toNat).caps (el zFunc x.funcs i.a.toNat).caps.length
  else if i.op = 16 then argsTo s i.a (i.b.toNat + 1)
  else s.acc == 1
def givesB (op : Int) : Bool := decide (op = 1 ∨ op = 2 ∨ op = 5 ∨ op = 7 ∨ op = 9 ∨ op = 10 ∨ op = 11 ∨ op = 15 ∨ op = 16)
def afterS (i : Ins) (s : State) : State :=
  if givesB i.op = true then ⟨1, s.regs⟩
  else if i.op = 3 then ⟨s.acc, s.regs.set i.a.toNat 1⟩
  else if i.op = 4 then ⟨s.acc, s.regs.set i.a.toNat 2⟩
  else s
structure Fl where
  list : List State
  reached : List Bool
  queue : List Int
  k : Nat
  bad : Bool
/-- A state comes to a place. -/
def come (r : Fl) (p : Nat) (s : State) : Fl :=
  if r.list.length ≤ p then { r with bad := true }
  else if el false r.reached p = true then
    if joinS (el zState r.list p) s = el zState r.list p then r
    else { r with list := r.list.set p (joinS (el zState r.list p) s), reached := r.reached.set p true, queue := r.queue ++ [(p : Int)] }
  else { r with list := r.list.set p s, reached := r.reached.set p true, queue := r.queue ++ [(p : Int)] }
def handsTo (hs : List Handler) (p : Int) (s : State) (r : Fl) : Nat → Fl
  | 0 => r
  | j + 1 => if (el zHandler hs j).from_ ≤ p ∧ p < (el zHandler hs j).to_ then come (handsTo hs p s r j) (el zHandler hs j).target.toNat ⟨1, s.regs⟩ else handsTo hs p s r j
def isJump (op : Int) : Bool := decide (op = 12 ∨ op = 13 ∨ op = 14)
def isEnd (op : Int) : Bool := decide (op = 12 ∨ op = 17 ∨ op = 18)
def jump (r : Fl) (i : Ins) (n : State) : Fl := if isJump i.op = true then come r i.a.toNat n else r
def next (r : Fl) (i : Ins) (p : Nat) (n : State) : Fl := if isEnd i.op = true then r else come r (p + 1) n
def step (x : Image) (f : Func) (r : Fl) : Fl :=
  let p := (el 0 r.queue r.k).toNat
  let s := el zState r.list p
  let i := el zIns f.code p
  let r1 := handsTo f.handlers (p : Int) s { r with k := r.k + 1 } f.handlers.length
  if mayB x f i s = true then next (jump r1 i (afterS i s)) i p (afterS i s) else { r1 with bad := true }
def done (r : Fl) : Prop := r.bad = true ∨ r.queue.length ≤ r.k
instance (r : Fl) : Decidable (done r) := by unfold done; infer_instance
def it (x : Image) (f : Func) (r : Fl) : Nat → Fl
  | 0 => r
  | n + 1 => if done (it x f r n) then it x f r n else step x f (it x f r n)
def begin (f : Func) : State := ⟨0, List.replicate f.params.toNat 1 ++ List.replicate (f.regs.toNat - f.params.toNat) 0⟩
def blank (f : Func) : Fl := ⟨List.replicate f.code.length zState, List.replicate f.code.length false, [], 0, false⟩
def start (f : Func) : Fl := come (blank f) 0 (begin f)
def nz (l : List Int) : Nat := l.countP (fun v => v != 0)
def cnt (s : State) : Nat := 1 + (if s.acc = 0 then 0 else 1) + nz s.regs
def wt (R : Nat) (x : State × Bool) : Nat := if x.2 = true then cnt x.1 else R + 3
def pot (R : Nat) (r : Fl) : Nat := ((r.list.zip r.reached).map (wt R)).sum
theorem sum_set {α : Type} (g : α → Nat) (l : List α) (j : Nat) (y : α) (h : j < l.length) : ((l.set j y).map g).sum + g l[j] = (l.map g).sum + g y := by
  induction l generalizing j with
  | nil => simp at h
  | cons a l ih =>
    cases j with
    | zero => simp; omega
    | succ j =>
      have := ih j (by simpa using h)
      simp only [List.set_cons_succ, List.map_cons, List.sum_cons, List.getElem_cons_succ]
      omega
theorem zip_set {α β : Type} (l : List α) (m : List β) (j : Nat) (x : α) (y : β) : (l.set j x).zip (m.set j y) = (l.zip m).set j (x, y) := by
  induction l generalizing m j with
  | nil => simp
  | cons a l ih =>
    cases m with
    | nil => simp
    | cons b m =>
      cases j with
      | zero => simp
      | succ j => simp [ih]
theorem nz_le (l : List Int) : nz l ≤ l.length := List.countP_le_length
theorem nz_drop : ∀ (l m : List Int), l.length = m.length → (∀ i : Nat, i < l.length → el 0 m i = el 0 l i ∨ el 0 m i = 0) → nz m ≤ nz l ∧ (m ≠ l → nz m < nz l) := by
  intro l
  induction l with
  | nil =>
    intro m hl _
    have : m = [] := List.eq_nil_of_length_eq_zero hl.symm
    subst this
    exact ⟨Nat.le_refl _, fun h => absurd rfl h⟩
  | cons a l ih =>
    intro m hl h
    cases m with
    | nil => simp at hl
    | cons b m =>
      have h0 := h 0 (by simp)
      have ih2 := ih m (by simpa using hl) (fun i hi => by have := h (i + 1) (by simpa using hi); simpa [el] using this)
      have e0 : b = a ∨ b = 0 := by simpa [el] using h0
      have key : nz (b :: m) = (if b = 0 then 0 else 1) + nz m ∧ nz (a :: l) = (if a = 0 then 0 else 1) + nz l := by
        constructor <;> (unfold nz; rw [List.countP_cons]; split <;> split <;> simp_all <;> omega)
      rw [key.1, key.2]
      refine ⟨?_, fun hne => ?_⟩
      · rcases e0 with rfl | rfl
        · omega
        · split <;> omega
      · rcases e0 with rfl | rfl
        · have : m ≠ l := fun e => hne (by rw [e])
          have := ih2.2 this
          omega
        · by_cases ea : a = 0
          · subst ea
            have : m ≠ l := fun e => hne (by rw [e])
            have := ih2.2 this
            omega
          · rw [if_neg ea]
            simp
            omega
theorem joined_at (l m : List Int) (i : Nat) (h : i < max l.length m.length) : el 0 (joined l m) i = alike l m i := by
  unfold el
  rw [joined_get]
  rw [joined_length]
  exact h
theorem cnt_join {a s : State} (h : s.regs.length = a.regs.length) (hne : joinS a s ≠ a) : cnt (joinS a s) < cnt a := by
  have hl : (joined a.regs s.regs).length = a.regs.length := by rw [joined_length]; omega
  have k := nz_drop a.regs (joined a.regs s.regs) hl.symm (fun i hi => by
    rw [joined_at _ _ _ (by omega)]
    unfold alike
    split
    · exact .inl rfl
    · exact .inr rfl)
  have ea : cnt (joinS a s) = 1 + (if (if a.acc = s.acc then a.acc else 0) = 0 then 0 else 1) + nz (joined a.regs s.regs) := rfl
  have eb : cnt a = 1 + (if a.acc = 0 then 0 else 1) + nz a.regs := rfl
  rw [ea, eb]
  by_cases e1 : joined a.regs s.regs = a.regs
  · by_cases e2 : (if a.acc = s.acc then a.acc else 0) = a.acc
    · exact absurd (show joinS a s = a by unfold joinS; rw [e1, e2]) hne
    · have e3 : ¬ a.acc = s.acc := fun e => e2 (by rw [if_pos e])
      have e4 : ¬ a.acc = 0 := fun e => e2 (by rw [if_neg e3, e])
      rw [if_neg e3, if_neg e4, e1]
      simp
  · have := k.2 e1
    have : (if (if a.acc = s.acc then a.acc else 0) = 0 then 0 else 1 : Nat) ≤ (if a.acc = 0 then 0 else 1) := by
      by_cases e3 : a.acc = s.acc
      · rw [if_pos e3]; exact Nat.le_refl _
      · rw [if_neg e3, if_pos rfl]; exact Nat.zero_le _
    omega
theorem cnt_le {R : Nat} {s : State} (h : s.regs.length = R) : cnt s ≤ R + 2 := by
  have := nz_le s.regs
  have : (if s.acc = 0 then 0 else 1 : Nat) ≤ 1 := by split <;> omega
  unfold cnt
  omega
theorem join_len {a s : State} (h : s.regs.length = a.regs.length) : (joinS a s).regs.length = a.regs.length := by
  show (joined a.regs s.regs).length = _
  rw [joined_length]
  omega
structure Inv (n R : Nat) (r : Fl) : Prop where
  ll : r.list.length = n
  lr : r.reached.length = n
  qs : ∀ q ∈ r.queue, 0 ≤ q ∧ q.toNat < n ∧ el false r.reached q.toNat = true
  rs : ∀ i : Nat, i < n → el false r.reached i = true → (el zState r.list i).regs.length = R
  pt : pot R r + r.queue.length ≤ (R + 3) * n
  kq : r.k ≤ r.queue.length
theorem el_set {α : Type} (z x : α) (l : List α) (i j : Nat) : el z (l.set j x) i = if i = j ∧ j < l.length then x else el z l i := by
  unfold el
  rw [List.getD_eq_getElem?_getD, List.getD_eq_getElem?_getD, List.getElem?_set]
  by_cases h : j = i
  · subst h
    by_cases h2 : j < l.length
    · rw [if_pos rfl, if_pos h2, if_pos ⟨rfl, h2⟩]; rfl
    · rw [if_pos rfl, if_neg h2, if_neg (fun k => h2 k.2), List.getElem?_eq_none (by omega)]
  · rw [if_neg h, if_neg (fun k => h k.1.symm)]
theorem pot_set {R : Nat} {r : Fl} {p : Nat} {x : State} (hl : r.list.length = r.reached.length) (hp : p < r.list.length) (q : List Int) (k : Nat) (b : Bool) :
    pot R ⟨r.list.set p x, r.reached.set p true, q, k, b⟩ + wt R (el zState r.list p, el false r.reached p) = pot R r + cnt x := by
  unfold pot
  show (((r.list.set p x).zip (r.reached.set p true)).map (wt R)).sum + _ = _
  rw [zip_set]
  have h := sum_set (wt R) (r.list.zip r.reached) p (x, true) (by rw [List.length_zip]; omega)
  rw [List.getElem_zip] at h
  rw [el_lt zState hp, el_lt false (by omega : p < r.reached.length), h]
  rfl
/-- What a state's coming changes. -/
structure Step (R : Nat) (r r2 : Fl) : Prop where
  pq : pot R r2 + r2.queue.length ≤ pot R r + r.queue.length
  kk : r2.k = r.k
  ql : r.queue.length ≤ r2.queue.length
  bd : r.bad = true → r2.bad = true
  st : ∀ i : Nat, i < r.queue.length → el 0 r2.queue i = el 0 r.queue i
theorem Step.refl (R : Nat) (r : Fl) : Step R r r := ⟨Nat.le_refl _, rfl, Nat.le_refl _, fun h => h, fun _ _ => rfl⟩
theorem Step.then_ {R : Nat} {a b c : Fl} (h : Step R a b) (g : Step R b c) : Step R a c :=
  ⟨Nat.le_trans g.pq h.pq, g.kk.trans h.kk, Nat.le_trans h.ql g.ql, fun e => g.bd (h.bd e), fun i hi => (g.st i (Nat.lt_of_lt_of_le hi h.ql)).trans (h.st i hi)⟩
theorem el_app {α : Type} (z y : α) (l : List α) (i : Nat) (h : i < l.length) : el z (l ++ [y]) i = el z l i := by
  unfold el
  rw [List.getD_eq_getElem?_getD, List.getD_eq_getElem?_getD, List.getElem?_append_left h]
theorem come_put {n R : Nat} {r : Fl} {p : Nat} {y : State} (h : Inv n R r) (hp : p < n) (hy : y.regs.length = R) (hw : cnt y + 1 ≤ wt R (el zState r.list p, el false r.reached p)) :
    Inv n R ⟨r.list.set p y, r.reached.set p true, r.queue ++ [(p : Int)], r.k, r.bad⟩ ∧ Step R r ⟨r.list.set p y, r.reached.set p true, r.queue ++ [(p : Int)], r.k, r.bad⟩ := by
  have hpot := pot_set (R := R) (r := r) (p := p) (x := y) (by rw [h.ll, h.lr]) (by rw [h.ll]; exact hp) (r.queue ++ [(p : Int)]) r.k r.bad
  have hq : (r.queue ++ [(p : Int)]).length = r.queue.length + 1 := by simp
  have hpt := h.pt
  refine ⟨⟨by simp [h.ll], by simp [h.lr], ?_, ?_, ?_, ?_⟩, ?_, rfl, ?_, fun e => e, fun i hi => el_app _ _ _ _ hi⟩
  · intro q hq
    rcases List.mem_append.1 hq with hq | hq
    · obtain ⟨h1, h2, h3⟩ := h.qs q hq
      refine ⟨h1, h2, ?_⟩
      show el false (r.reached.set p true) q.toNat = true
      rw [el_set]
      split
      · rfl
      · exact h3
    · obtain rfl : q = (p : Int) := by simpa using hq
      refine ⟨by omega, by simpa using hp, ?_⟩
      show el false (r.reached.set p true) (p : Int).toNat = true
      rw [el_set, if_pos ⟨by simp, by rw [h.lr]; exact hp⟩]
  · intro i hi hr
    show (el zState (r.list.set p y) i).regs.length = R
    have hr2 : el false (r.reached.set p true) i = true := hr
    rw [el_set] at hr2 ⊢
    by_cases e : i = p ∧ p < r.list.length
    · rw [if_pos e]; exact hy
    · rw [if_neg e]
      rw [if_neg (fun k => e ⟨k.1, by rw [h.ll]; rw [h.lr] at k; exact k.2⟩)] at hr2
      exact h.rs i hi hr2
  · show pot R _ + (r.queue ++ [(p : Int)]).length ≤ _
    omega
  · show r.k ≤ (r.queue ++ [(p : Int)]).length
    have := h.kq
    omega
  · show pot R _ + (r.queue ++ [(p : Int)]).length ≤ _
    omega
  · show _ ≤ (r.queue ++ [(p : Int)]).length
    omega
theorem Inv.bad {n R : Nat} {r : Fl} (h : Inv n R r) : Inv n R { r with bad := true } := ⟨h.ll, h.lr, h.qs, h.rs, h.pt, h.kq⟩
theorem Step.bad (R : Nat) (r : Fl) : Step R r { r with bad := true } := ⟨Nat.le_refl _, rfl, Nat.le_refl _, fun _ => rfl, fun _ _ => rfl⟩
theorem come_inv {n R : Nat} {r : Fl} {p : Nat} {s : State} (h : Inv n R r) (hs : s.regs.length = R) : Inv n R (come r p s) ∧ Step R r (come r p s) := by
  unfold come
  by_cases h1 : r.list.length ≤ p
  · rw [if_pos h1]; exact ⟨h.bad, Step.bad R r⟩
  · rw [if_neg h1]
    have hp : p < n := by rw [← h.ll]; omega
    by_cases h2 : el false r.reached p = true
    · rw [if_pos h2]
      by_cases h3 : joinS (el zState r.list p) s = el zState r.list p
      · rw [if_pos h3]; exact ⟨h, Step.refl R r⟩
      · rw [if_neg h3]
        have hR := h.rs p hp h2
        have hc := cnt_join (a := el zState r.list p) (s := s) (by rw [hs, hR]) h3
        exact come_put h hp (by rw [join_len (by rw [hs, hR]), hR]) (by unfold wt; rw [if_pos h2]; exact hc)
    · rw [if_neg h2]
      have := cnt_le hs
      exact come_put h hp hs (by unfold wt; rw [if_neg h2]; omega)
theorem hands_inv {n R : Nat} {r : Fl} {hs : List Handler} {p : Int} {s : State} (h : Inv n R r) (hl : s.regs.length = R) : ∀ j, Inv n R (handsTo hs p s r j) ∧ Step R r (handsTo hs p s r j)
  | 0 => ⟨h, Step.refl R r⟩
  | j + 1 => by
    have ih := hands_inv (hs := hs) (p := p) h hl j
    unfold handsTo
    split
    · have g := come_inv (p := (el zHandler hs j).target.toNat) (s := ⟨1, s.regs⟩) ih.1 hl
      exact ⟨g.1, ih.2.then_ g.2⟩
    · exact ih
theorem after_len {i : Ins} {s : State} : (afterS i s).regs.length = s.regs.length := by
  unfold afterS
  split
  · rfl
  · split
    · simp
    · split
      · simp
      · rfl
theorem jump_inv {n R : Nat} {r : Fl} {i : Ins} {s : State} (h : Inv n R r) (hl : s.regs.length = R) : Inv n R (jump r i s) ∧ Step R r (jump r i s) := by
  unfold jump
  split
  · exact come_inv h hl
  · exact ⟨h, Step.refl R r⟩
theorem next_inv {n R : Nat} {r : Fl} {i : Ins} {p : Nat} {s : State} (h : Inv n R r) (hl : s.regs.length = R) : Inv n R (next r i p s) ∧ Step R r (next r i p s) := by
  unfold next
  split
  · exact ⟨h, Step.refl R r⟩
  · exact come_inv h hl
theorem Inv.pop {n R : Nat} {r : Fl} (h : Inv n R r) (hk : r.k < r.queue.length) : Inv n R { r with k := r.k + 1 } := ⟨h.ll, h.lr, h.qs, h.rs, h.pt, hk⟩
theorem at_ok {n R : Nat} {r : Fl} (h : Inv n R r) (hk : r.k < r.queue.length) : 0 ≤ el 0 r.queue r.k ∧ (el 0 r.queue r.k).toNat < n ∧ (el zState r.list (el 0 r.queue r.k).toNat).regs.length = R := by
  obtain ⟨h1, h2, h3⟩ := h.qs _ (el_mem 0 hk)
  exact ⟨h1, h2, h.rs _ h2 h3⟩
/-- What is still to be done. -/
def meas (R : Nat) (r : Fl) : Nat := pot R r + r.queue.length - r.k
theorem step_inv {n R : Nat} {r : Fl} {x : Image} {f : Func} (h : Inv n R r) (hk : r.k < r.queue.length) : Inv n R (step x f r) ∧ Step R { r with k := r.k + 1 } (step x f r) := by
  have ha := (at_ok h hk).2.2
  have hh := hands_inv (hs := f.handlers) (p := (((el 0 r.queue r.k).toNat : Nat) : Int)) (h.pop hk) ha f.handlers.length
  unfold step
  simp only
  split
  · have hj := jump_inv (i := el zIns f.code (el 0 r.queue r.k).toNat) (s := afterS (el zIns f.code (el 0 r.queue r.k).toNat) (el zState r.list (el 0 r.queue r.k).toNat)) hh.1 (by rw [after_len]; exact ha)
    have hn := next_inv (i := el zIns f.code (el 0 r.queue r.k).toNat) (p := (el 0 r.queue r.k).toNat) (s := afterS (el zIns f.code (el 0 r.queue r.k).toNat) (el zState r.list (el 0 r.queue r.k).toNat)) hj.1 (by rw [after_len]; exact ha)
    exact ⟨hn.1, (hh.2.then_ hj.2).then_ hn.2⟩
  · exact ⟨hh.1.bad, hh.2.then_ (Step.bad R _)⟩
theorem step_meas {n R : Nat} {r : Fl} {x : Image} {f : Func} (h : Inv n R r) (hk : r.k < r.queue.length) : meas R (step x f r) < meas R r := by
  have g := (step_inv (x := x) (f := f) h hk).2
  have g1 := g.pq
  have g2 := g.kk
  have g3 : pot R { r with k := r.k + 1 } = pot R r := rfl
  have g4 := (step_inv (x := x) (f := f) h hk).1.kq
  unfold meas
  have g5 : ({ r with k := r.k + 1 } : Fl).k = r.k + 1 := rfl
  have g6 : ({ r with k := r.k + 1 } : Fl).queue = r.queue := rfl
  rw [g5] at g2
  rw [g3, g6] at g1
  omega
theorem it_inv {n R : Nat} {r : Fl} {x : Image} {f : Func} (h : Inv n R r) : ∀ j, Inv n R (it x f r j)
  | 0 => h
  | j + 1 => by
    have ih := it_inv (x := x) (f := f) h j
    unfold it
    split
    · exact ih
    · rename_i hd
      have hk : (it x f r j).k < (it x f r j).queue.length := by
        apply Nat.lt_of_not_le
        intro e
        exact hd (.inr e)
      exact (step_inv ih hk).1
theorem it_stop {x : Image} {f : Func} {r : Fl} {j : Nat} (h : done (it x f r j)) : ∀ d, it x f r (j + d) = it x f r j
  | 0 => rfl
  | d + 1 => by
    have ih := it_stop h d
    show (if done (it x f r (j + d)) then it x f r (j + d) else step x f (it x f r (j + d))) = _
    rw [ih, if_pos h]
theorem it_done {n R : Nat} {r : Fl} {x : Image} {f : Func} (h : Inv n R r) : ∀ j, meas R (it x f r j) + j ≤ meas R r ∨ done (it x f r j)
  | 0 => .inl (Nat.le_refl _)
  | j + 1 => by
    rcases it_done (x := x) (f := f) h j with ih | ih
    · by_cases hd : done (it x f r j)
      · right
        have := it_stop hd 1
        rw [this]
        exact hd
      · left
        have hk : (it x f r j).k < (it x f r j).queue.length := by
          apply Nat.lt_of_not_le
          intro e
          exact hd (.inr e)
        have hm := step_meas (x := x) (f := f) (it_inv (x := x) (f := f) h j) hk
        have e : it x f r (j + 1) = step x f (it x f r j) := by
          show (if done (it x f r j) then it x f r j else step x f (it x f r j)) = _
          rw [if_neg hd]
        rw [e]
        omega
    · right
      have := it_stop ih 1
      rw [this]
      exact ih
theorem done_at {n R : Nat} {r : Fl} {x : Image} {f : Func} (h : Inv n R r) : done (it x f r (meas R r + 1)) := by
  rcases it_done (x := x) (f := f) h (meas R r + 1) with e | e
  · omega
  · exact e
/-- What comes of it in the end. -/
def final (x : Image) (f : Func) : Fl := it x f (start f) (meas f.regs.toNat (start f) + 1)
theorem begin_len {f : Func} (h : f.params ≤ f.regs) (h0 : 0 ≤ f.params) : (begin f).regs.length = f.regs.toNat := by
  unfold begin
  simp
  omega
theorem blank_inv (f : Func) : Inv f.code.length f.regs.toNat (blank f) := by
  have hz : ∀ n : Nat, ((List.replicate n zState).zip (List.replicate n false)).map (wt f.regs.toNat) = List.replicate n (f.regs.toNat + 3) := by
    intro n
    rw [List.zip_replicate']
    simp [wt]
  refine ⟨by simp [blank], by simp [blank], fun q hq => by simp [blank] at hq, fun i hi hr => ?_, ?_, Nat.le_refl _⟩
  · unfold blank el at hr
    simp [hi] at hr
  · unfold pot
    show (((List.replicate f.code.length zState).zip (List.replicate f.code.length false)).map (wt f.regs.toNat)).sum + 0 ≤ _
    rw [hz]
    simp
    rw [Nat.mul_comm]
    exact Nat.le_refl _
theorem start_inv {f : Func} (h : f.params ≤ f.regs) (h0 : 0 ≤ f.params) : Inv f.code.length f.regs.toNat (start f) := (come_inv (blank_inv f) (begin_len h h0)).1
/-- Where it has come to an end, it has come to its end. -/
theorem final_of {x : Image} {f : Func} (h : f.params ≤ f.regs) (h0 : 0 ≤ f.params) {j : Nat} (hd : done (it x f (start f) j)) : it x f (start f) j = final x f := by
  unfold final
  have hm := done_at (x := x) (f := f) (start_inv h h0)
  rcases Nat.le_total j (meas f.regs.toNat (start f) + 1) with hle | hle
  · obtain ⟨d, hd2⟩ := Nat.exists_eq_add_of_le hle
    rw [hd2, it_stop hd d]
  · obtain ⟨d, hd2⟩ := Nat.exists_eq_add_of_le hle
    rw [hd2, it_stop hm d]
/-- A step that ends badly ends badly however it goes on. -/
theorem final_bad {x : Image} {f : Func} (h : f.params ≤ f.regs) (h0 : 0 ≤ f.params) {j : Nat} (hb : (it x f (start f) j).bad = true) : (final x f).bad = true := by
  rw [← final_of h h0 (.inl hb)]
  exact hb
end Go.Proofs.Ytcbaokflimdjnaa.Flow
end
section
namespace Go.Proofs.Ytcbaokflimdjnaa.Flow
open Go.RowKit Go.Proofs.YtcbaokflimdjnaaW.PrintWords Go.Proofs.YtcbaokflimdjnaaW.PrintMore Go.Proofs.Ytcbaokflimdjnaa.Law Go.Proofs.Ytcbaokflimdjnaa
set_option linter.unusedVariables false
set_option linter.unusedSimpArgs false
set_option autoImplicit false
theorem M_over {α : Type} {d : Kd α} {W w1 : World} {base : Nat} {ok : Nat → Prop} {x : α} {cs : List Value} {k0 : Nat} {e' : TypeId} (h : d.M W base ok x cs) (hty : ∃ cells, W.heap[k0]? = some (.cells cells e' (0, 0))) (ht : ∀ q, q ∈ d.E → q ≠ e') (hg : W.grownBy w1 (some k0)) : d.M w1 base ok x cs := by
  refine d.M_mono (fun _ hk => hk.1) (d.M_move (fun k hk => hg.block k hk.2.2.1 (fun he => ?_)) (d.M_bound h))
  obtain ⟨_, _, _, q, hq, cells, hc⟩ := hk
  obtain ⟨cells', hc'⟩ := hty
  injection he with he
  subst he
  rw [hc] at hc'
  injection hc' with hc'
  injection hc' with _ hc'
  exact ht q hq hc'
theorem M_after {α : Type} {d : Kd α} {base : Nat} {ok : Nat → Prop} {W w1 : World} {v v1 : Value} {x : α} {cs : List Value} (h : d.M W base (fun k => ok k ∧ some k ≠ v.ownBlock) x cs) (hg : W.grownBy w1 v.ownBlock) (hat : v1.ownBlock = v.ownBlock ∨ ∃ b, v1.ownBlock = some b ∧ W.heap.size ≤ b) : d.M w1 base (fun k => ok k ∧ some k ≠ v1.ownBlock) x cs := by
  refine d.M_mono (fun k hk => ⟨hk.1.1, ?_⟩) (d.M_move (fun k hk => hg.block k hk.2.2.1 hk.1.2) (d.M_bound h))
  rcases hat with hat | ⟨b, hb, hle⟩
  · rw [hat]; exact hk.1.2
  · rw [hb]
    intro he
    injection he with he
    have := hk.2.2.1
    omega
/-- A state whose registers are neither the box nor what is still to be done. -/
def SOk (g lo : Nat) (W : World) (vt : Value) (s : State) (cs : List Value) : Prop := kStateI.M W lo (fun b => b ≠ g ∧ some b ≠ vt.ownBlock) s cs
/-- A block of others: neither the box nor one of its rows. -/
def BOk (g : Nat) (vl vr vt : Value) (W : World) (b : Nat) (o : Obj) : Prop := W.heap[b]? = some o ∧ b ≠ g ∧ some b ≠ vl.ownBlock ∧ some b ≠ vr.ownBlock ∧ some b ≠ vt.ownBlock
theorem BOk.step {g : Nat} {vl vr vt : Value} {W W2 : World} {b : Nat} {o : Obj} (h : BOk g vl vr vt W b o) (hb : Below W.heap.size W W2) : BOk g vl vr vt W2 b o := ⟨(hb.block b (blk_lt h.1)).trans h.1, h.2⟩
theorem BOk.set {g : Nat} {vl vr vt : Value} {W : World} {b : Nat} {o : Obj} (h : BOk g vl vr vt W b o) (j : Nat) (u : Value) : BOk g vl vr vt (W.setCell ⟨g, j, none⟩ u) b o := ⟨(Below.heap_setCell W ⟨g, j, none⟩ u b h.2.1).trans h.1, h.2⟩
structure Run (t : TypeId) (cs : Array Value) (d g lo : Nat) (w0 W : World) (r : Fl) (vl vr vt : Value) : Prop where
  below : Below w0.heap.size w0 W
  hlo : w0.heap.size ≤ lo
  hg : w0.heap.size ≤ g
  box : W.heap[g]? = some (.cells cs t (0, 0))
  L : kStateI.R 31 W lo (fun b => b ≠ g ∧ some b ≠ vt.ownBlock) vl r.list
  B : Kd.bool.R 4 W lo (fun b => b ≠ g) vr r.reached
  Q : (Kd.int .i64).Q 3 W lo (fun b => b ≠ g) vt (r.queue.drop d)
theorem SOk.step {g lo : Nat} {W W2 : World} {vt : Value} {s : State} {cs : List Value} (h : SOk g lo W vt s cs) (hb : Below W.heap.size W W2) : SOk g lo W2 vt s cs := Kd.M_step h (fun k _ hk => hb.block k hk)
theorem SOk.K {g lo : Nat} {W : World} {vt : Value} {s : State} {cs : List Value} (h : SOk g lo W vt s cs) : kStateI.K W s cs := kStateI.K_of_M h
theorem Run.step {t : TypeId} {cs : Array Value} {d g lo : Nat} {w0 W W2 : World} {r : Fl} {vl vr vt : Value} (h : Run t cs d g lo w0 W r vl vr vt) (hb : Below W.heap.size W W2) : Run t cs d g lo w0 W2 r vl vr vt :=
  ⟨below_step h.below hb, h.hlo, h.hg, blk_below h.box hb, Kd.R_below h.L hb, Kd.R_below h.B hb, Kd.Q_below h.Q hb⟩
/-- A new state is apart from all that was. -/
theorem SOk.new {g lo : Nat} {W W2 : World} {vt : Value} {s : State} {cs : List Value} (hm : kStateI.M W2 W.heap.size (fun _ => True) s cs) (hlo : lo ≤ W.heap.size) (hg : g < W.heap.size) (ht : ∀ k, vt.ownBlock = some k → k < W.heap.size) : SOk g lo W2 vt s cs := by
  refine kStateI.M_mono (fun k hk => ⟨?_, fun he => ?_⟩) (kStateI.M_lower hlo (kStateI.M_bound hm))
  · have := hk.2.1
    omega
  · have := ht k he.symm
    have := hk.2.1
    omega
theorem Run.lt {t : TypeId} {cs : Array Value} {d g lo : Nat} {w0 W : World} {r : Fl} {vl vr vt : Value} (h : Run t cs d g lo w0 W r vl vr vt) : g < W.heap.size ∧ ∀ k, vt.ownBlock = some k → k < W.heap.size := ⟨blk_lt h.box, Kd.Q_lt h.Q⟩
/-- A cell of the box is written. -/
theorem Run.set {t : TypeId} {cs cs' : Array Value} {d g lo : Nat} {w0 W : World} {r : Fl} {vl vr vt : Value} (h : Run t cs d g lo w0 W r vl vr vt) (j : Nat) (u : Value) (e : cs.setIfInBounds j u = cs') : Run t cs' d g lo w0 (W.setCell ⟨g, j, none⟩ u) r vl vr vt :=
  ⟨below_set h.below h.hg, h.hlo, h.hg, blk_put h.box j u e, Kd.R_far h.L (fun k hk => hk.1) u, Kd.R_far h.B (fun k hk => hk) u, Kd.Q_far h.Q (fun k hk => hk) u⟩
theorem SOk.set {g lo : Nat} {W : World} {vt : Value} {s : State} {cs : List Value} (h : SOk g lo W vt s cs) (j : Nat) (u : Value) : SOk g lo (W.setCell ⟨g, j, none⟩ u) vt s cs :=
  Kd.M_step h (fun k hk _ => Below.heap_setCell W ⟨g, j, none⟩ u k hk.1)
/-- What is told of the run alone changes. -/
theorem Run.as {t : TypeId} {cs : Array Value} {d g lo : Nat} {w0 W : World} {r r2 : Fl} {vl vr vt : Value} (h : Run t cs d g lo w0 W r vl vr vt) (e1 : r2.list = r.list) (e2 : r2.reached = r.reached) (e3 : r2.queue.drop d = r.queue.drop d) : Run t cs d g lo w0 W r2 vl vr vt := by
  refine ⟨h.below, h.hlo, h.hg, h.box, ?_, ?_, ?_⟩
  · rw [e1]; exact h.L
  · rw [e2]; exact h.B
  · rw [e3]; exact h.Q
theorem below_grown {w0 W w1 : World} (h : Below w0.heap.size w0 W) {k : Nat} (hk : w0.heap.size ≤ k) (hg : W.grownBy w1 (some k)) : Below w0.heap.size w0 w1 :=
  h.trans ⟨hg.os, hg.tape, hg.output, hg.size, fun i hi => hg.block i (Nat.lt_of_lt_of_le hi h.size) (fun he => by injection he with he; omega)⟩
/-- A state is laid at a place. -/
theorem Run.putL {t : TypeId} {cs : Array Value} {d g lo : Nat} {w0 W : World} {r : Fl} {gl n cap : Nat} {vr vt : Value} (h : Run t cs d g lo w0 W r (.slice (some ⟨gl, 0, none⟩) n cap) vr vt) (ht : t ≠ 31) (p : Nat) (hp : p < r.list.length) {s : State} {a b : Value} (hs : SOk g lo W vt s [a, b]) :
    Run t cs d g lo w0 (W.setCells gl (p * 2) [a, b]) { r with list := r.list.set p s } (.slice (some ⟨gl, 0, none⟩) n cap) vr vt ∧ (∀ s' cs', SOk g lo W vt s' cs' → SOk g lo (W.setCells gl (p * 2) [a, b]) vt s' cs') ∧ (∀ q o, BOk g (.slice (some ⟨gl, 0, none⟩) n cap) vr vt W q o → BOk g (.slice (some ⟨gl, 0, none⟩) n cap) vr vt (W.setCells gl (p * 2) [a, b]) q o) := by
  have hn := (Kd.R_reads' h.L).1
  obtain ⟨c, hcl, _, hcc, _⟩ := Kd.R_elem h.L zState (p : Int) (by omega) (by omega)
  have hcl2 : c.length = 2 := hcl
  have hz : kStateI.sz = 2 := rfl
  have hty := own_typed (Kd.R_own h.L).choose_spec gl (by simp [Value.ownBlock])
  have hss : kStateI.M W lo (fun k => (k ≠ g ∧ some k ≠ vt.ownBlock) ∧ k ≠ gl) s [a, b] := by
    refine kStateI.M_mono (fun k hk => ⟨hk.1, fun he => ?_⟩) (kStateI.M_bound hs)
    obtain ⟨_, _, _, q, hq, cells, hc⟩ := hk
    obtain ⟨cells', hc'⟩ := hty
    subst he
    rw [hc] at hc'
    injection hc' with hc'
    injection hc' with _ hc'
    have : q = 3 := by simpa [kStateI, Kd.iso, Kd.pair, Kd.int, Kd.scalar, Kd.slice] using hq
    rw [this] at hc'
    exact absurd hc' (by decide)
  have hM : kStateI.M W lo (fun k => (k ≠ g ∧ some k ≠ vt.ownBlock) ∧ k ≠ gl) s (c.take 0 ++ [a, b] ++ c.drop (0 + [a, b].length)) := by
    have e : c.take 0 ++ [a, b] ++ c.drop (0 + [a, b].length) = [a, b] := by
      rw [List.drop_eq_nil_of_le (by rw [hcl2]; exact Nat.le_refl _)]
      simp
    rw [e]
    exact hss
  obtain ⟨hL, hgw⟩ := Kd.R_seg h.L (p : Int) (by omega) (by omega) hcl hcc (seg := [a, b]) (j := 0) (by rw [hz]; exact Nat.le_refl _) (x' := s) hM (fun k hk => hk)
  rw [Int.toNat_natCast] at hL hgw
  have hgl : w0.heap.size ≤ gl := Nat.le_trans h.hlo (Kd.R_base h.L gl (by simp [Value.ownBlock]))
  have hne : g ≠ gl := fun e => by
    have := h.L.1 gl (by simp [Value.ownBlock])
    exact this.1 e.symm
  refine ⟨⟨below_grown h.below hgl hgw, h.hlo, h.hg, blk_grown h.box hgw (fun e => hne (by injection e)), hL, ?_, ?_⟩, fun s' cs' hs' => M_over hs' hty (fun q hq => ?_) hgw, fun q o hq => ⟨blk_grown hq.1 hgw (by simpa [Value.ownBlock] using hq.2.2.1), hq.2⟩⟩
  · exact Kd.R_over' (v := .slice (some ⟨gl, 0, none⟩) n cap) h.B (fun k hk => by have e : gl = k := (by simpa [Value.ownBlock] using hk); subst e; exact hty) (fun q hq => by have : q = 4 := (by simpa [Kd.bool, Kd.scalar] using hq); rw [this]; decide) hgw
  · exact Kd.Q_over' (v := .slice (some ⟨gl, 0, none⟩) n cap) h.Q (fun k hk => by have e : gl = k := (by simpa [Value.ownBlock] using hk); subst e; exact hty) (fun q hq => by have : q = 3 := (by simpa [Kd.int, Kd.scalar] using hq); rw [this]; decide) hgw
  · have : q = 3 := by simpa [kStateI, Kd.iso, Kd.pair, Kd.int, Kd.scalar, Kd.slice] using hq
    rw [this]
    decide
/-- A place is reached. -/
theorem Run.putB {t : TypeId} {cs : Array Value} {d g lo : Nat} {w0 W : World} {r : Fl} {gr n cap : Nat} {vl vt : Value} (h : Run t cs d g lo w0 W r vl (.slice (some ⟨gr, 0, none⟩) n cap) vt) (p : Nat) (hp : p < r.reached.length) :
    Run t cs d g lo w0 (W.setCell ⟨gr, p, none⟩ (.bool true)) { r with reached := r.reached.set p true } vl (.slice (some ⟨gr, 0, none⟩) n cap) vt ∧ (∀ s' cs', SOk g lo W vt s' cs' → SOk g lo (W.setCell ⟨gr, p, none⟩ (.bool true)) vt s' cs') ∧ (∀ q o, BOk g vl (.slice (some ⟨gr, 0, none⟩) n cap) vt W q o → BOk g vl (.slice (some ⟨gr, 0, none⟩) n cap) vt (W.setCell ⟨gr, p, none⟩ (.bool true)) q o) := by
  have hn := (Kd.R_reads' h.B).1
  have hty := own_typed (Kd.R_own h.B).choose_spec gr (by simp [Value.ownBlock])
  obtain ⟨hB, hgw⟩ := Kd.R_putg h.B (p : Int) true
  rw [Int.toNat_natCast] at hB hgw
  have hgr : w0.heap.size ≤ gr := Nat.le_trans h.hlo (Kd.R_base h.B gr (by simp [Value.ownBlock]))
  have hne : g ≠ gr := fun e => h.B.1 gr (by simp [Value.ownBlock]) e.symm
  have ho : ∀ k, (Value.slice (some ⟨gr, 0, none⟩) n cap).ownBlock = some k → ∃ cells, W.heap[k]? = some (.cells cells 4 (0, 0)) := fun k hk => by have e : gr = k := (by simpa [Value.ownBlock] using hk); subst e; exact hty
  refine ⟨⟨below_grown h.below hgr hgw, h.hlo, h.hg, blk_grown h.box hgw (fun e => hne (by injection e)), ?_, hB, ?_⟩, fun s' cs' hs' => M_over hs' hty (fun q hq => ?_) hgw, fun q o hq => ⟨blk_grown hq.1 hgw (by simpa [Value.ownBlock] using hq.2.2.2.1), hq.2⟩⟩
  · exact Kd.R_over' (v := .slice (some ⟨gr, 0, none⟩) n cap) h.L ho (fun q hq => by
      rcases List.mem_cons.1 hq with rfl | hq
      · decide
      · have : q = 3 := by simpa [kStateI, Kd.iso, Kd.pair, Kd.int, Kd.scalar, Kd.slice] using hq
        rw [this]; decide) hgw
  · exact Kd.Q_over' (v := .slice (some ⟨gr, 0, none⟩) n cap) h.Q ho (fun q hq => by have : q = 3 := (by simpa [Kd.int, Kd.scalar] using hq); rw [this]; decide) hgw
  · have : q = 3 := by simpa [kStateI, Kd.iso, Kd.pair, Kd.int, Kd.scalar, Kd.slice] using hq
    rw [this]
    decide
/-- What is to be done has grown by a place (and is not in the box yet). -/
theorem Run.app {t : TypeId} {cs : Array Value} {d g lo : Nat} {w0 W w1 : World} {r : Fl} {vl vr vt v1 : Value} (h : Run t cs d g lo w0 W r vl vr vt) (p : Int) (hd : d ≤ r.queue.length) (ht : t ≠ 3) (hQ : (Kd.int .i64).Q 3 w1 lo (fun b => b ≠ g) v1 (r.queue.drop d ++ [p])) (hb : Below w0.heap.size w0 w1) (hg : W.grownBy w1 vt.ownBlock) (hat : v1.ownBlock = vt.ownBlock ∨ ∃ b, v1.ownBlock = some b ∧ W.heap.size ≤ b) :
    Run t cs d g lo w0 w1 { r with queue := r.queue ++ [p] } vl vr v1 ∧ (∀ s' cs', SOk g lo W vt s' cs' → SOk g lo w1 v1 s' cs') ∧ (∀ q o, BOk g vl vr vt W q o → BOk g vl vr v1 w1 q o) := by
  have hty := Kd.Q_typed h.Q
  refine ⟨⟨hb, h.hlo, h.hg, blk_grown h.box hg (fun e => h.Q.1 g e.symm rfl), Kd.R_after h.L hg hat, ?_, ?_⟩, fun s' cs' hs' => M_after hs' hg hat, fun q o hq => ⟨blk_grown hq.1 hg hq.2.2.2.2, hq.2.1, hq.2.2.1, hq.2.2.2.1, fun e => ?_⟩⟩
  · exact Kd.R_over' h.B hty (fun q hq => by have : q = 4 := (by simpa [Kd.bool, Kd.scalar] using hq); rw [this]; decide) hg
  · show (Kd.int .i64).Q 3 w1 lo (fun b => b ≠ g) v1 ((r.queue ++ [p]).drop d)
    rw [List.drop_append_of_le_length hd]
    exact hQ
  · have hlt := blk_lt hq.1
    rcases hat with hat | ⟨b, hb2, hle⟩
    · exact hq.2.2.2.2 (e.trans hat)
    · rw [hb2] at e
      injection e with e
      omega
end Go.Proofs.Ytcbaokflimdjnaa.Flow
end
section
namespace Go.Proofs.Ytcbaokflimdjnaa.Flow
open Go.RowKit Go.Proofs.YtcbaokflimdjnaaW.PrintWords Go.Proofs.YtcbaokflimdjnaaW.PrintMore Go.Proofs.Ytcbaokflimdjnaa.Law Go.Proofs.Ytcbaokflimdjnaa
set_option linter.unusedVariables false
set_option linter.unusedSimpArgs false
set_option autoImplicit false
def stepP (x : Image) (f : Func) (r : Fl) (p : Nat) : Fl :=
  if mayB x f (el zIns f.code p) (el zState r.list p) = true then next (jump (handsTo f.handlers (p : Int) (el zState r.list p) r f.handlers.length) (el zIns f.code p) (afterS (el zIns f.code p) (el zState r.list p))) (el zIns f.code p) p (afterS (el zIns f.code p) (el zState r.list p))
  else { handsTo f.handlers (p : Int) (el zState r.list p) r f.handlers.length with bad := true }
theorem step_eq (x : Image) (f : Func) (r : Fl) : step x f r = stepP x f { r with k := r.k + 1 } (el 0 r.queue r.k).toNat := rfl
structure FnOk (x : Image) (f : Func) : Prop where
  fl : x.funcs.length ≤ 16
  pr : 0 ≤ f.params ∧ f.params ≤ 4
  rg : f.params ≤ f.regs ∧ f.regs ≤ 40
  cl : f.caps.length ≤ 20
  kl : 1 ≤ f.code.length ∧ f.code.length ≤ 300
  hl : f.handlers.length ≤ 40
  code : ∀ i ∈ f.code, (1 ≤ i.op ∧ i.op ≤ 19) ∧ (0 ≤ i.a ∧ i.a ≤ 300) ∧ (0 ≤ i.b ∧ i.b ≤ 300)
  hand : ∀ h ∈ f.handlers, (0 ≤ h.from_ ∧ h.from_ ≤ 300) ∧ (0 ≤ h.to_ ∧ h.to_ ≤ 300) ∧ (0 ≤ h.target ∧ h.target ≤ 300)
theorem fn_ok {x : Image} (h : imgB x = true) {f : Func} (hf : f ∈ x.funcs) : FnOk x f := by
  have hfb := img_func h hf
  have hlen := img_len h
  unfold Img.fB Img.funcB Img.inB at hfb
  simp only [Bool.and_eq_true, decide_eq_true_eq, List.all_eq_true] at hfb
  have h2 : (sFunc f).f2.length = f.caps.length := List.length_map _
  have h3 : (sFunc f).f3.length = f.code.length := List.length_map _
  have h4 : (sFunc f).f4.length = f.handlers.length := List.length_map _
  rw [h2, h3, h4] at hfb
  have p0 : (sFunc f).f0 = f.params := rfl
  have p1 : (sFunc f).f1 = f.regs := rfl
  rw [p0, p1] at hfb
  refine ⟨by omega, by omega, by omega, by omega, by omega, by omega, fun i hi => ?_, fun q hq => ?_⟩
  · have k := hfb.2.2.2.2.2.2.1 (sIns i) (List.mem_map_of_mem hi)
    unfold Img.insB Img.inB at k
    simp only [Bool.and_eq_true, decide_eq_true_eq] at k
    exact ⟨k.1, k.2.1, k.2.2⟩
  · have k := hfb.2.2.2.2.2.2.2 (sHandler q) (List.mem_map_of_mem hq)
    unfold Img.hdB Img.inB at k
    simp only [Bool.and_eq_true, decide_eq_true_eq] at k
    exact ⟨k.1, k.2.1, k.2.2⟩
theorem Run.low {t : TypeId} {cs : Array Value} {d g lo : Nat} {w0 W : World} {r : Fl} {vl vr vt : Value} (h : Run t cs d g lo w0 W r vl vr vt) (hn : 0 < r.list.length) : lo ≤ W.heap.size := by
  obtain ⟨gl, cl, hgl, hb, hlt, _⟩ := Kd.R_form h.L hn
  omega
theorem inv_q {n R : Nat} {r : Fl} (h : Inv n R r) (hn : n ≤ 300) (hR : R ≤ 40) : r.queue.length ≤ 12900 := by
  have h1 := h.pt
  have h2 : (R + 3) * n ≤ 43 * 300 := Nat.mul_le_mul (by omega) hn
  omega
/-- A box that is new. -/
theorem _root_.Go.Proofs.Ytcbaokflimdjnaa.Law.Mem.boxed {w W w1 : World} {H : List Hold} (h : Mem w W H) {g : Nat} {cs : Array Value} {t : TypeId} (hg : g = W.heap.size) (hx : w1.heap[g]? = some (.cells cs t (0, 0))) (hb : Below W.heap.size W w1) : Mem w w1 (Hold.box g cs t :: H) := by
  have h2 := h.step hb
  refine ⟨h2.below, fun y hy => ?_, fun y hy => ?_, List.Pairwise.cons (fun b hb => .inl (by have := (h.fits b hb).2; rw [hg]; exact this)) h.apart⟩
  · rcases List.mem_cons.1 hy with rfl | hy
    · exact hx
    · exact h2.says y hy
  · rcases List.mem_cons.1 hy with rfl | hy
    · exact ⟨by show w.heap.size ≤ g; rw [hg]; exact h.below.size, by have := blk_lt hx; show g + 1 ≤ _; omega⟩
    · exact h2.fits y hy
/-- A new state over a row that is a value of its own. -/
theorem SOk.of_val {g lo b hi : Nat} {W : World} {vt : Value} {s : State} {a a2 : Int} {v : Value} (h : kStateI.M W b (fun k => b ≤ k ∧ k < hi) s [.int .i64 a, v]) (hlo : lo ≤ b) (hg : g < b) (ht : ∀ k, vt.ownBlock = some k → k < b) : SOk g lo W vt ⟨a2, s.regs⟩ [.int .i64 a2, v] := by
  obtain ⟨v2, hv, hr⟩ := kStateI_openM h
  injection hv with h1 h2
  injection h2 with h2 _
  subst h2
  refine kStateI_mkM _ _ _ ⟨a2, s.regs⟩ (Kd.R_lower (Kd.R_mono hr (fun k hk => ⟨fun e => by have := hk.1; omega, fun e => by have := ht k e.symm; have := hk.1; omega⟩)) hlo)
/-- The first state's registers, so far. -/
def filled (R q : Nat) : List Int := List.replicate q 1 ++ List.replicate (R - q) 0
theorem filled_len {R q : Nat} (h : q ≤ R) : (filled R q).length = R := by
  unfold filled
  simp
  omega
theorem filled_set {R q : Nat} (h : q < R) : (filled R q).set q 1 = filled R (q + 1) := by
  unfold filled
  obtain ⟨d, hd⟩ : ∃ d, R - q = d + 1 := ⟨R - q - 1, by omega⟩
  rw [hd, show R - (q + 1) = d by omega, List.set_append_right _ _ (by simp), List.length_replicate, Nat.sub_self, List.replicate_succ, List.set_cons_zero, List.replicate_succ' (n := q), List.append_assoc]
  rfl
theorem begin_filled (f : Func) : begin f = ⟨0, filled f.regs.toNat f.params.toNat⟩ := rfl
theorem it_succ {x : Image} {f : Func} {r : Fl} {n : Nat} (h : ¬ done (it x f r n)) : it x f r (n + 1) = step x f (it x f r n) := by
  show (if done (it x f r n) then it x f r n else step x f (it x f r n)) = _
  rw [if_neg h]
/-- What is to be done loses its first: its row stands in the same block. -/
theorem Run.pop {t : TypeId} {cs cs' : Array Value} {d g lo : Nat} {w0 W : World} {r : Fl} {vl vr : Value} {gt ot n c ot2 : Nat} (h : Run t cs d g lo w0 W r vl vr (.slice (some ⟨gt, ot, none⟩) n c)) (hd : d < r.queue.length) (hn : n = r.queue.length - d) (ho : ot2 = if c = 1 then ot else ot + 1) (j : Nat) (e : cs.setIfInBounds j (.slice (some ⟨gt, ot2, none⟩) (n - 1) (c - 1)) = cs') :
    Run t cs' (d + 1) g lo w0 (W.setCell ⟨g, j, none⟩ (.slice (some ⟨gt, ot2, none⟩) (n - 1) (c - 1))) r vl vr (.slice (some ⟨gt, ot2, none⟩) (n - 1) (c - 1)) := by
  have h2 := h.set j (.slice (some ⟨gt, ot2, none⟩) (n - 1) (c - 1)) e
  refine ⟨h2.below, h2.hlo, h2.hg, h2.box, Kd.R_mono h2.L (fun k hk => ⟨hk.1, fun e => hk.2 (by rw [e]; rfl)⟩), h2.B, ?_⟩
  have q := Kd.Q_drop (k := 1) h2.Q (by rw [List.length_drop]; omega)
  rw [List.drop_drop] at q
  have e2 : (if c = 1 then some (⟨gt, ot, none⟩ : Addr) else (some (⟨gt, ot, none⟩ : Addr)).map (·.add (1 * (Kd.int .i64).sz))) = some ⟨gt, ot2, none⟩ := by
    rw [ho]
    split
    · rfl
    · rfl
  rw [e2] at q
  exact q
theorem BOk.pop {g : Nat} {vl vr : Value} {gt ot ot2 n c n2 c2 : Nat} {W : World} {b : Nat} {o : Obj} (h : BOk g vl vr (.slice (some ⟨gt, ot, none⟩) n c) W b o) (j : Nat) : BOk g vl vr (.slice (some ⟨gt, ot2, none⟩) n2 c2) (W.setCell ⟨g, j, none⟩ (.slice (some ⟨gt, ot2, none⟩) n2 c2)) b o := by
  have h2 := h.set j (.slice (some ⟨gt, ot2, none⟩) n2 c2)
  exact ⟨h2.1, h2.2.1, h2.2.2.1, h2.2.2.2.1, fun e => h2.2.2.2.2 (by rw [e]; rfl)⟩
end Go.Proofs.Ytcbaokflimdjnaa.Flow
end
