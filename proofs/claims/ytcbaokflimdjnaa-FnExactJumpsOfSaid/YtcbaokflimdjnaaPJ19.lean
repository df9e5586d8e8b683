/- Part 19 of the proof: general lemmas, contracts of functions, walks. No condition of its own. -/
import Derived.Deep.RegionWith
import Derived.Deep.RegionHeld3
import Derived.Deep.DeepCutAuto
import Derived.IntWalk
import Derived.Test.YtcbaokflimdjnaaPJ2
import Derived.Test.YtcbaokflimdjnaaPJ17
import Derived.Test.YtcbaokflimdjnaaPJ18
import Derived.Test.YtcbaokflimdjnaaPJ10
import Derived.Test.YtcbaokflimdjnaaPJ16
import Derived.Test.YtcbaokflimdjnaaPJ6
import Derived.Test.YtcbaokflimdjnaaPJ11
import Derived.Test.YtcbaokflimdjnaaPJ3
section
namespace Go.Proofs.Ytcbaokflimdjnaa.Img
open Go.RowKit Go.Proofs.YtcbaokflimdjnaaW.PrintWords Go.Proofs.YtcbaokflimdjnaaW.PrintMore Go.Proofs.Ytcbaokflimdjnaa.QFnExactVerify Go.Proofs.Ytcbaokflimdjnaa.Num
set_option linter.unusedVariables false
set_option linter.unusedSimpArgs false
set_option autoImplicit false
theorem up {α : Type} {f : Nat → Option α} (hm : ∀ k, LeO (f k) (f (k + 1))) {k0 : Nat} {r : α} (h : f k0 = some r) {k : Nat} (hk : k0 ≤ k) : f k = some r := by
  obtain ⟨d, rfl⟩ : ∃ d, k = k0 + d := ⟨k - k0, by omega⟩
  clear hk
  induction d with
  | zero => exact h
  | succ d ih => exact hm (k0 + d) r ih
def inB (x lo hi : Int) : Bool := decide (lo ≤ x ∧ x ≤ hi)
theorem spec_in (x lo hi : Int) : spec_l01In.f x lo hi = some (inB x lo hi) := by
  unfold spec_l01In.f inB
  by_cases h : x ≥ lo
  · rw [if_pos h]
    by_cases h2 : x ≤ hi
    · rw [decide_eq_true h2, decide_eq_true ⟨h, h2⟩]
    · rw [decide_eq_false h2, decide_eq_false (fun e => h2 e.2)]
  · rw [if_neg h, decide_eq_false (fun e => h e.1)]
theorem impl_in (x lo hi : Int) : impl_within.f x lo hi = some (inB x lo hi) := spec_in x lo hi
theorem pow63 : spec_l03Pow.f 100 63 = some 9223372036854775808 := by decide +kernel
theorem spec_parts {x : Int} (h0 : 0 ≤ x) (h1 : x < 18446744073709551616) : spec_PartsOfNumber.f 100 x = some (PN x) := by
  unfold spec_PartsOfNumber.f
  have hq := Int.emod_lt_of_pos x (show (0 : Int) < 4503599627370496 by omega)
  have hq0 := Int.emod_nonneg x (show (4503599627370496 : Int) ≠ 0 by omega)
  have e1 : wrap64 (Int.tmod (IntKind.u64.wrap (Int.tdiv x 4503599627370496)) 2048) = x / 4503599627370496 % 2048 := by
    rw [tdiv_pos h0, u64_id (by omega) (by omega), tmod_pos (by omega), wrap64_id (by omega) (by omega)]
  have e2 : Int.tmod x 4503599627370496 = x % 4503599627370496 := tmod_pos h0
  have e3 : IntKind.u64.wrap (Int.tdiv x 9223372036854775808) = x / 9223372036854775808 := by rw [tdiv_pos h0, u64_id (by omega) (by omega)]
  rw [pow63]
  simp only [Option.bind_some, e1, e2, e3]
  rw [if_neg (by omega)]
  unfold PN
  by_cases h2 : x / 4503599627370496 % 2048 = 2047
  · rw [if_pos h2, if_pos h2]
    by_cases h3 : x % 4503599627370496 = 0
    · simp only [spec_PartsOfNumber.j0, h3, bne_self_eq_false, Bool.false_eq_true, if_false, h2, if_true]
    · simp only [spec_PartsOfNumber.j0, (bne_iff_ne.mpr h3), if_true, if_neg h3]
  · rw [if_neg h2, if_neg h2]
    by_cases h4 : x / 4503599627370496 % 2048 = 0
    · by_cases h3 : x % 4503599627370496 = 0
      · simp [spec_PartsOfNumber.j0, spec_PartsOfNumber.j1, h4, h3]
      · simp [spec_PartsOfNumber.j0, spec_PartsOfNumber.j1, h4, h3]
    · rw [if_neg h4]
      simp only [spec_PartsOfNumber.j0, spec_PartsOfNumber.j1, Bool.false_eq_true, if_false, if_neg h2, if_neg h4]
      rw [u64_id (by omega) (by omega), wrap64_id (by omega) (by omega)]
theorem spec_nan {x : Int} (h0 : 0 ≤ x) (h1 : x < 18446744073709551616) : spec_l03Nan.f 100 x = some (isNan x) := by
  unfold spec_l03Nan.f
  rw [spec_parts h0 h1]
  simp only [Option.bind_some]
  rw [PN_nan h0]
theorem impl_nan {x : Int} (h0 : 0 ≤ x) (h1 : x < 18446744073709551616) : impl_isNaN.f x = some (isNan x) := by
  unfold impl_isNaN.f isNan
  rw [and_63 h0 h1]
theorem drop_rd {α : Type} (z : α) (l : List α) {j : Nat} (h : j < l.length) : l.drop j = l.getD j z :: l.drop (j + 1) := by
  rw [List.getD_eq_getElem?_getD, List.getElem?_eq_getElem h]
  exact List.drop_eq_getElem_cons h
/-- Of a constant. -/
def constB (x : S100) : Bool :=
  if x.f0 = 1 then (x.f2.toList == ([] : List UInt8)) && (!isNan x.f1 || x.f1 == 9221120237041090560)
  else if x.f0 = 2 then x.f1 == 0 && decide ((x.f2.size : Int) ≤ 40)
  else if x.f0 = 3 ∨ x.f0 = 4 ∨ x.f0 = 5 then x.f1 == 0 && (x.f2.toList == ([] : List UInt8)) else false
theorem beq_nil (l : List UInt8) : (l == ([] : List UInt8)) = decide (l = []) := by cases l <;> rfl
theorem spec_const (x : S100) (h0 : 0 ≤ x.f1) (h1 : x.f1 < 18446744073709551616) {k : Nat} (hk : 100 ≤ k) : spec_ConstOk.f k x.f0 x.f1 x.f2 = some (constB x) := by
  have hn : spec_l03Nan.f k x.f1 = some (isNan x.f1) := up (f := fun k => spec_l03Nan.f k x.f1) (fun k => spec_l03Nan.mono x.f1 k) (spec_nan h0 h1) hk
  unfold spec_ConstOk.f constB
  rw [hn]
  by_cases k1 : x.f0 = 1
  · rw [if_pos k1, if_pos k1, Option.bind_some, beq_nil]
    by_cases ht : x.f2.toList = []
    · rw [if_pos ht, decide_eq_true ht]
      cases isNan x.f1 <;> simp
    · rw [if_neg ht, decide_eq_false ht]; rfl
  · by_cases k2 : x.f0 = 2
    · by_cases hz : x.f1 = 0 <;> simp [k2, hz]
    · by_cases hz : x.f1 = 0 <;> by_cases k3 : x.f0 = 3 <;> by_cases k4 : x.f0 = 4 <;> by_cases k5 : x.f0 = 5 <;> simp [k1, k2, k3, k4, k5, hz]
theorem impl_const (x : S100) (h0 : 0 ≤ x.f1) (h1 : x.f1 < 18446744073709551616) : impl_ConstOk.f x.f0 x.f1 x.f2 = some (constB x) := by
  unfold impl_ConstOk.f constB
  rw [impl_nan h0 h1]
  by_cases k1 : x.f0 = 1
  · rw [if_pos k1, if_pos k1, Option.bind_some, beq_nil]
    cases isNan x.f1
    · simp
    · by_cases hz : x.f1 = 9221120237041090560 <;> simp [hz]
  · by_cases k2 : x.f0 = 2
    · by_cases hl : (x.f2.size : Int) ≤ 40
      · rw [if_neg k1, if_pos k2, if_pos hl, if_neg k1, if_pos k2, decide_eq_true hl, Bool.and_true]
      · rw [if_neg k1, if_pos k2, if_neg hl, if_neg k1, if_pos k2, decide_eq_false hl, Bool.and_false]
    · by_cases hz : x.f1 = 0 <;> by_cases k3 : x.f0 = 3 <;> by_cases k4 : x.f0 = 4 <;> by_cases k5 : x.f0 = 5 <;> simp [k1, k2, k3, k4, k5, hz]
def capB (x : S105) : Bool := inB x.f1 0 40
def insB (x : S76) : Bool := inB x.f0 1 19 && (inB x.f1 0 300 && inB x.f2 0 300)
def hdB (x : S107) : Bool := inB x.f0 0 300 && (inB x.f1 0 300 && inB x.f2 0 300)
theorem rdC (l : List S105) (j : Nat) : rd_T105 l (j : Int) = l.getD j z105 := by simp [rd_T105]
theorem rdI (l : List S76) (j : Nat) : rd_T76 l (j : Int) = l.getD j z76 := by simp [rd_T76]
theorem rdH (l : List S107) (j : Nat) : rd_T107 l (j : Int) = l.getD j z107 := by simp [rd_T107]
theorem rdF (l : List S73) (j : Nat) : rd_T73 l (j : Int) = l.getD j z73 := by simp [rd_T73]
theorem rdK (l : List S100) (j : Nat) : rd_T100 l (j : Int) = l.getD j z100 := by simp [rd_T100]
theorem rdF0 (l : List S73) : rd_T73 l 0 = l.getD 0 z73 := by simp [rd_T73]
theorem w1 {j : Nat} (h : j ≤ 1000000) : wrap64 ((j : Int) + 1) = ((j + 1 : Nat) : Int) := by unfold wrap64; omega
section
variable (p r : Int) (cs : List S105) (co : List S76) (hs : List S107)
theorem s_l2 (hl : hs.length ≤ 1000) : ∀ (d k j : Nat), j + d = hs.length → d < k → spec_l13Func.l2 k j p r cs co hs = some ((hs.drop j).all hdB)
  | d, 0, j, _, h => absurd h (by omega)
  | 0, k + 1, j, hd, _ => by
    rw [spec_l13Func.l2, if_neg (by omega), List.drop_eq_nil_of_le (by omega)]
    rfl
  | d + 1, k + 1, j, hd, hk => by
    have hj : j < hs.length := by omega
    have ih := s_l2 hl d k (j + 1) (by omega) (by omega)
    rw [spec_l13Func.l2, if_pos (by omega), if_pos (by omega), rdH, spec_in, Option.bind_some, spec_in, Option.bind_some, spec_in, Option.bind_some, w1 (by omega), ih, drop_rd z107 hs hj, List.all_cons]
    generalize hs.getD j z107 = x
    unfold hdB
    cases inB x.f0 0 300 <;> cases inB x.f1 0 300 <;> cases inB x.f2 0 300 <;> simp
theorem s_l1 (hl : hs.length ≤ 1000) (hc : co.length ≤ 1000) : ∀ (d k j : Nat), j + d = co.length → d + hs.length + 1 < k → spec_l13Func.l1 k j p r cs co hs = some ((co.drop j).all insB && hs.all hdB)
  | d, 0, j, _, h => absurd h (by omega)
  | 0, k + 1, j, hd, hk => by
    rw [spec_l13Func.l1, if_neg (by omega), List.drop_eq_nil_of_le (by omega), show (0 : Int) = ((0 : Nat) : Int) from rfl, s_l2 p r cs co hs hl hs.length k 0 (by omega) (by omega)]
    rfl
  | d + 1, k + 1, j, hd, hk => by
    have hj : j < co.length := by omega
    have ih := s_l1 hl hc d k (j + 1) (by omega) (by omega)
    rw [spec_l13Func.l1, if_pos (by omega), if_pos (by omega), rdI, spec_in, Option.bind_some, spec_in, Option.bind_some, spec_in, Option.bind_some, w1 (by omega), ih, drop_rd z76 co hj, List.all_cons]
    generalize co.getD j z76 = x
    unfold insB
    cases inB x.f0 1 19 <;> cases inB x.f1 0 300 <;> cases inB x.f2 0 300 <;> simp
theorem s_l0 (hl : hs.length ≤ 1000) (hc : co.length ≤ 1000) (ha : cs.length ≤ 1000) : ∀ (d k j : Nat), j + d = cs.length → d + co.length + hs.length + 2 < k → spec_l13Func.l0 k j p r cs co hs = some ((cs.drop j).all capB && (co.all insB && hs.all hdB))
  | d, 0, j, _, h => absurd h (by omega)
  | 0, k + 1, j, hd, hk => by
    rw [spec_l13Func.l0, if_neg (by omega), List.drop_eq_nil_of_le (by omega), show (0 : Int) = ((0 : Nat) : Int) from rfl, s_l1 p r cs co hs hl hc co.length k 0 (by omega) (by omega)]
    rfl
  | d + 1, k + 1, j, hd, hk => by
    have hj : j < cs.length := by omega
    have ih := s_l0 hl hc ha d k (j + 1) (by omega) (by omega)
    rw [spec_l13Func.l0, if_pos (by omega), if_pos (by omega), rdC, spec_in, Option.bind_some, w1 (by omega), ih, drop_rd z105 cs hj, List.all_cons]
    generalize cs.getD j z105 = x
    unfold capB
    cases inB x.f1 0 40 <;> simp
/-- Of a Func. -/
def funcB : Bool := inB p 0 4 && (inB r p 40 && (decide (cs.length ≤ 20) && (inB co.length 1 300 && (decide (hs.length ≤ 40) && (cs.all capB && (co.all insB && hs.all hdB))))))
theorem spec_func {k : Nat} (hk : 500 ≤ k) : spec_l13Func.f k p r cs co hs = some (funcB p r cs co hs) := by
  obtain ⟨k, rfl⟩ : ∃ q, k = q + 1 := ⟨k - 1, by omega⟩
  unfold spec_l13Func.f funcB
  rw [spec_in, Option.bind_some, spec_in, Option.bind_some, spec_in, Option.bind_some]
  have jt : spec_l13Func.j0 (k + 1) true p r cs co hs = some false := by rw [spec_l13Func.j0, if_pos rfl]
  rw [jt]
  cases inB p 0 4
  · simp
  cases inB r p 40
  · simp
  by_cases hc : (cs.length : Int) > 20
  · simp [hc, show ¬ cs.length ≤ 20 by omega]
  by_cases hco : inB co.length 1 300 = true
  rotate_left
  · simp [hc, hco]
  have hcl : co.length ≤ 300 := by have := of_decide_eq_true hco; omega
  by_cases hh : (hs.length : Int) > 40
  · simp [hc, hco, hh, jt, show ¬ hs.length ≤ 40 by omega]
  have e := s_l0 p r cs co hs (by omega) (by omega) (by omega) cs.length k 0 (by omega) (by omega)
  have jf : spec_l13Func.j0 (k + 1) false p r cs co hs = some (cs.all capB && (co.all insB && hs.all hdB)) := by rw [spec_l13Func.j0, if_neg (by decide)]; exact e
  simp [hc, hco, hh, jf, show cs.length ≤ 20 by omega, show hs.length ≤ 40 by omega]
theorem i_l2 (hl : hs.length ≤ 1000) : ∀ (d k j : Nat), j + d = hs.length → d < k → impl_funcOk.l2 k hs hs.length j = some ((hs.drop j).all hdB)
  | d, 0, j, _, h => absurd h (by omega)
  | 0, k + 1, j, hd, _ => by
    rw [impl_funcOk.l2, if_neg (by omega), List.drop_eq_nil_of_le (by omega)]
    rfl
  | d + 1, k + 1, j, hd, hk => by
    have hj : j < hs.length := by omega
    have ih := i_l2 hl d k (j + 1) (by omega) (by omega)
    rw [impl_funcOk.l2, if_pos (by omega), if_pos (by omega), if_pos (by omega), rdH, impl_in, Option.bind_some, impl_in, Option.bind_some, impl_in, Option.bind_some, w1 (by omega), ih, drop_rd z107 hs hj, List.all_cons]
    generalize hs.getD j z107 = x
    unfold hdB
    cases inB x.f0 0 300 <;> cases inB x.f1 0 300 <;> cases inB x.f2 0 300 <;> simp
theorem i_l1 (hl : hs.length ≤ 1000) (hc : co.length ≤ 1000) : ∀ (d k j : Nat), j + d = co.length → d + hs.length + 1 < k → impl_funcOk.l1 k co co.length j p r cs co hs = some ((co.drop j).all insB && hs.all hdB)
  | d, 0, j, _, h => absurd h (by omega)
  | 0, k + 1, j, hd, hk => by
    rw [impl_funcOk.l1, if_neg (by omega), List.drop_eq_nil_of_le (by omega), show (0 : Int) = ((0 : Nat) : Int) from rfl, i_l2 hs hl hs.length k 0 (by omega) (by omega)]
    rfl
  | d + 1, k + 1, j, hd, hk => by
    have hj : j < co.length := by omega
    have ih := i_l1 hl hc d k (j + 1) (by omega) (by omega)
    rw [impl_funcOk.l1, if_pos (by omega), if_pos (by omega), if_pos (by omega), rdI, impl_in, Option.bind_some, impl_in, Option.bind_some, impl_in, Option.bind_some, w1 (by omega), ih, drop_rd z76 co hj, List.all_cons]
    generalize co.getD j z76 = x
    unfold insB
    cases inB x.f0 1 19 <;> cases inB x.f1 0 300 <;> cases inB x.f2 0 300 <;> simp
theorem i_l0 (hl : hs.length ≤ 1000) (hc : co.length ≤ 1000) (ha : cs.length ≤ 1000) : ∀ (d k j : Nat), j + d = cs.length → d + co.length + hs.length + 2 < k → impl_funcOk.l0 k cs cs.length j p r cs co hs = some ((cs.drop j).all capB && (co.all insB && hs.all hdB))
  | d, 0, j, _, h => absurd h (by omega)
  | 0, k + 1, j, hd, hk => by
    rw [impl_funcOk.l0, if_neg (by omega), List.drop_eq_nil_of_le (by omega), show (0 : Int) = ((0 : Nat) : Int) from rfl, i_l1 p r cs co hs hl hc co.length k 0 (by omega) (by omega)]
    rfl
  | d + 1, k + 1, j, hd, hk => by
    have hj : j < cs.length := by omega
    have ih := i_l0 hl hc ha d k (j + 1) (by omega) (by omega)
    rw [impl_funcOk.l0, if_pos (by omega), if_pos (by omega), if_pos (by omega), rdC, impl_in, Option.bind_some, w1 (by omega), ih, drop_rd z105 cs hj, List.all_cons]
    generalize cs.getD j z105 = x
    unfold capB
    cases inB x.f1 0 40 <;> simp
theorem impl_func {k : Nat} (hk : 500 ≤ k) : impl_funcOk.f k p r cs co hs = some (funcB p r cs co hs) := by
  obtain ⟨k, rfl⟩ : ∃ q, k = q + 1 := ⟨k - 1, by omega⟩
  unfold impl_funcOk.f funcB
  rw [impl_in, Option.bind_some, impl_in, Option.bind_some, impl_in, Option.bind_some]
  have jt : impl_funcOk.j0 (k + 1) true p r cs co hs = some false := by rw [impl_funcOk.j0, if_pos rfl]
  rw [jt]
  cases inB p 0 4
  · simp
  cases inB r p 40
  · simp
  by_cases hc : (cs.length : Int) > 20
  · simp [hc, show ¬ cs.length ≤ 20 by omega]
  by_cases hco : inB co.length 1 300 = true
  rotate_left
  · simp [hc, hco]
  have hcl : co.length ≤ 300 := by have := of_decide_eq_true hco; omega
  by_cases hh : (hs.length : Int) > 40
  · simp [hc, hco, hh, jt, show ¬ hs.length ≤ 40 by omega]
  have e := i_l0 p r cs co hs (by omega) (by omega) (by omega) cs.length k 0 (by omega) (by omega)
  have jf : impl_funcOk.j0 (k + 1) false p r cs co hs = some (cs.all capB && (co.all insB && hs.all hdB)) := by rw [impl_funcOk.j0, if_neg (by decide)]; exact e
  simp [hc, hco, hh, jf, show cs.length ≤ 20 by omega, show hs.length ≤ 40 by omega]
end
def fB (x : S73) : Bool := funcB x.f0 x.f1 x.f2 x.f3 x.f4
/-- Of an image. -/
def imageB (fs : List S73) (cs : List S100) : Bool :=
  inB fs.length 1 16 && (decide (cs.length ≤ 40) && (cs.all constB && (fs.all fB && (decide ((fs.getD 0 z73).f0 = 0) && decide ((fs.getD 0 z73).f2.length = 0)))))
section
variable (fs : List S73) (cs : List S100) (hn : ∀ x ∈ cs, 0 ≤ x.f1 ∧ x.f1 < 18446744073709551616)
include hn
def lastB (fs : List S73) : Bool := decide ((fs.getD 0 z73).f0 = 0) && decide ((fs.getD 0 z73).f2.length = 0)
omit hn in
theorem S_l1 (h0 : 0 < fs.length) (hf : fs.length ≤ 1000) : ∀ (d k j : Nat), j + d = fs.length → d + 500 < k → spec_ImageOk.l1 k j fs cs = some ((fs.drop j).all fB && lastB fs)
  | d, 0, j, _, h => absurd h (by omega)
  | 0, k + 1, j, hd, hk => by
    rw [spec_ImageOk.l1, if_neg (by omega), List.drop_eq_nil_of_le (by omega), if_pos (by omega), rdF0]
    unfold lastB
    generalize fs.getD 0 z73 = y
    by_cases h1 : y.f0 = 0
    · rw [if_pos h1, decide_eq_true h1]
      by_cases h2 : y.f2.length = 0
      · rw [decide_eq_true h2]
        have h3 : y.f2 = [] := List.length_eq_zero_iff.mp h2
        simp [h3]
      · rw [decide_eq_false h2]
        have h3 : y.f2 ≠ [] := fun e => h2 (by rw [e]; rfl)
        simp [h3]
    · rw [if_neg h1, decide_eq_false h1]; rfl
  | d + 1, k + 1, j, hd, hk => by
    have hj : j < fs.length := by omega
    have ih := S_l1 h0 hf d k (j + 1) (by omega) (by omega)
    rw [spec_ImageOk.l1, if_pos (by omega), if_pos (by omega), rdF, spec_func _ _ _ _ _ (by omega), Option.bind_some, w1 (by omega), ih, drop_rd z73 fs hj, List.all_cons]
    show (if fB (fs.getD j z73) = true then _ else _) = _
    cases fB (fs.getD j z73) <;> simp
theorem S_l0 (h0 : 0 < fs.length) (hf : fs.length ≤ 1000) (hc : cs.length ≤ 1000) : ∀ (d k j : Nat), j + d = cs.length → d + fs.length + 501 < k → spec_ImageOk.l0 k j fs cs = some ((cs.drop j).all constB && (fs.all fB && lastB fs))
  | d, 0, j, _, h => absurd h (by omega)
  | 0, k + 1, j, hd, hk => by
    rw [spec_ImageOk.l0, if_neg (by omega), List.drop_eq_nil_of_le (by omega), show (0 : Int) = ((0 : Nat) : Int) from rfl, S_l1 fs cs h0 hf fs.length k 0 (by omega) (by omega)]
    rfl
  | d + 1, k + 1, j, hd, hk => by
    have hj : j < cs.length := by omega
    have ih := S_l0 h0 hf hc d k (j + 1) (by omega) (by omega)
    have hx := hn (cs.getD j z100) (by rw [List.getD_eq_getElem?_getD, List.getElem?_eq_getElem hj]; exact List.getElem_mem hj)
    rw [spec_ImageOk.l0, if_pos (by omega), if_pos (by omega), rdK, spec_const _ hx.1 hx.2 (by omega), Option.bind_some, w1 (by omega), ih, drop_rd z100 cs hj, List.all_cons]
    cases constB (cs.getD j z100) <;> simp
theorem spec_image {k : Nat} (hk : 700 ≤ k) : spec_ImageOk.f k fs cs = some (imageB fs cs) := by
  obtain ⟨k, rfl⟩ : ∃ q, k = q + 1 := ⟨k - 1, by omega⟩
  unfold spec_ImageOk.f imageB
  rw [spec_in, Option.bind_some]
  have jt : spec_ImageOk.j0 (k + 1) true fs cs = some false := by rw [spec_ImageOk.j0, if_pos rfl]
  by_cases h1 : inB fs.length 1 16 = true
  rotate_left
  · simp [h1, jt]
  have hf := of_decide_eq_true h1
  by_cases hc : (cs.length : Int) > 40
  · simp [h1, hc, jt, show ¬ cs.length ≤ 40 by omega]
  have e := S_l0 fs cs hn (by omega) (by omega) (by omega) cs.length k 0 (by omega) (by omega)
  have jf : spec_ImageOk.j0 (k + 1) false fs cs = some (cs.all constB && (fs.all fB && lastB fs)) := by rw [spec_ImageOk.j0, if_neg (by decide)]; exact e
  unfold lastB at jf
  simp [h1, hc, jf, show cs.length ≤ 40 by omega]
omit hn in
theorem I_l1 (hf : fs.length ≤ 1000) : ∀ (d k j : Nat), j + d = fs.length → d + 500 < k → impl_ImageOk.l1 k fs fs.length j = some ((fs.drop j).all fB)
  | d, 0, j, _, h => absurd h (by omega)
  | 0, k + 1, j, hd, hk => by
    rw [impl_ImageOk.l1, if_neg (by omega), List.drop_eq_nil_of_le (by omega)]
    rfl
  | d + 1, k + 1, j, hd, hk => by
    have hj : j < fs.length := by omega
    have ih := I_l1 hf d k (j + 1) (by omega) (by omega)
    rw [impl_ImageOk.l1, if_pos (by omega), if_pos (by omega), if_pos (by omega), rdF, impl_func _ _ _ _ _ (by omega), Option.bind_some, w1 (by omega), ih, drop_rd z73 fs hj, List.all_cons]
    show (if fB (fs.getD j z73) = true then _ else _) = _
    cases fB (fs.getD j z73) <;> simp
theorem I_l0 (hf : fs.length ≤ 1000) (hc : cs.length ≤ 1000) : ∀ (d k j : Nat), j + d = cs.length → d + fs.length + 501 < k → impl_ImageOk.l0 k cs cs.length j fs cs = some ((cs.drop j).all constB && fs.all fB)
  | d, 0, j, _, h => absurd h (by omega)
  | 0, k + 1, j, hd, hk => by
    rw [impl_ImageOk.l0, if_neg (by omega), List.drop_eq_nil_of_le (by omega), show (0 : Int) = ((0 : Nat) : Int) from rfl, I_l1 fs hf fs.length k 0 (by omega) (by omega)]
    rfl
  | d + 1, k + 1, j, hd, hk => by
    have hj : j < cs.length := by omega
    have ih := I_l0 hf hc d k (j + 1) (by omega) (by omega)
    have hx := hn (cs.getD j z100) (by rw [List.getD_eq_getElem?_getD, List.getElem?_eq_getElem hj]; exact List.getElem_mem hj)
    rw [impl_ImageOk.l0, if_pos (by omega), if_pos (by omega), if_pos (by omega), rdK, impl_const _ hx.1 hx.2, Option.bind_some, w1 (by omega), ih, drop_rd z100 cs hj, List.all_cons]
    cases constB (cs.getD j z100) <;> simp
theorem impl_image {k : Nat} (hk : 700 ≤ k) : impl_ImageOk.f k fs cs = some (imageB fs cs) := by
  obtain ⟨k, rfl⟩ : ∃ q, k = q + 1 := ⟨k - 1, by omega⟩
  unfold impl_ImageOk.f imageB
  rw [impl_in, Option.bind_some, rdF0]
  have jt : impl_ImageOk.j0 (k + 1) true fs cs = some false := by rw [impl_ImageOk.j0, if_pos rfl]
  by_cases h1 : inB fs.length 1 16 = true
  rotate_left
  · simp [h1, jt]
  have hf := of_decide_eq_true h1
  by_cases hc : (cs.length : Int) > 40
  · simp [h1, hc, jt, show ¬ cs.length ≤ 40 by omega]
  have e := I_l0 fs cs hn (by omega) (by omega) cs.length k 0 (by omega) (by omega)
  have jf : impl_ImageOk.j0 (k + 1) false fs cs = some (cs.all constB && fs.all fB) := by rw [impl_ImageOk.j0, if_neg (by decide)]; exact e
  rw [if_pos h1, if_neg hc, if_pos (by omega), h1, decide_eq_true (show cs.length ≤ 40 by omega)]
  generalize fs.getD 0 z73 = y
  by_cases h2 : y.f0 = 0
  · rw [if_pos h2, decide_eq_true h2]
    by_cases h3 : y.f2.length = 0
    · rw [decide_eq_false (by omega), jf, decide_eq_true h3]; simp
    · rw [decide_eq_true (by omega), jt, decide_eq_false h3]; simp
  · rw [if_neg h2, jt, decide_eq_false h2]; simp
end
end Go.Proofs.Ytcbaokflimdjnaa.Img
end
section
namespace Go.Proofs.Ytcbaokflimdjnaa
open Go.RowKit Go.Proofs.YtcbaokflimdjnaaW.PrintWords Go.Proofs.YtcbaokflimdjnaaW.PrintMore Go.Proofs.Ytcbaokflimdjnaa.QFnExactVerify
set_option linter.unusedVariables false
set_option linter.unusedSimpArgs false
set_option autoImplicit false
theorem C_map {α β : Type} {d : Kd α} {e : Kd β} (f : α → β) (hsz : d.sz = e.sz) (h : ∀ w x cs, d.K w x cs → e.K w (f x) cs) {w : World} {A : Option Addr} {l : List α} (hc : d.C w A l.length l) : e.C w A (l.map f).length (l.map f) := by
  refine ⟨rfl, by rw [List.length_map]; exact hc.2.1, fun hn => ?_⟩
  obtain ⟨ad, e1, hh⟩ := hc.2.2 (by rw [List.length_map] at hn; exact hn)
  refine ⟨ad, e1, fun j p hp => ?_⟩
  rw [List.getElem?_map] at hp
  cases hq : l[j]? with
  | none => rw [hq] at hp; cases hp
  | some q =>
    rw [hq] at hp
    obtain rfl : f q = p := by simpa using hp
    obtain ⟨c, h1, h2, h3⟩ := hh j q hq
    exact ⟨c, by rw [h1, hsz], h _ _ _ h2, by rw [← hsz]; exact h3⟩
def sCap (x : Cap) : S105 := ⟨x.reg, x.index⟩
def sIns (x : Ins) : S76 := ⟨x.op, x.a, x.b⟩
def sHandler (x : Handler) : S107 := ⟨x.from_, x.to_, x.target⟩
def sConst (x : Const) : S100 := ⟨x.kind, x.num, x.text⟩
def sFunc (x : Func) : S73 := ⟨x.params, x.regs, x.caps.map sCap, x.code.map sIns, x.handlers.map sHandler⟩
theorem sCap_K (w : World) (x : Cap) (cs : List Value) (h : kCap.K w x cs) : k105.K w (sCap x) cs := by
  have e := kCap_open h
  subst e
  exact k105_mk w (sCap x)
theorem sIns_K (w : World) (x : Ins) (cs : List Value) (h : kIns.K w x cs) : k76.K w (sIns x) cs := by
  have e := kIns_open h
  subst e
  exact k76_mk w (sIns x)
theorem sHandler_K (w : World) (x : Handler) (cs : List Value) (h : kHandler.K w x cs) : k107.K w (sHandler x) cs := by
  have e := kHandler_open h
  subst e
  exact k107_mk w (sHandler x)
theorem sConst_K (w : World) (x : Const) (cs : List Value) (h : kConst.K w x cs) : k100.K w (sConst x) cs := by
  have e := kConst_open h
  subst e
  exact k100_mk w (sConst x)
theorem sFunc_K (w : World) (x : Func) (cs : List Value) (h : kFuncI.K w x cs) : k73.K w (sFunc x) cs := by
  obtain ⟨A2, c2, A3, c3, A4, c4, rfl, l2, g2, l3, g3, l4, g4⟩ := kFuncI_open h
  have e2 : (sFunc x).f2.length = x.caps.length := List.length_map _
  have e3 : (sFunc x).f3.length = x.code.length := List.length_map _
  have e4 : (sFunc x).f4.length = x.handlers.length := List.length_map _
  have k := k73_mk w (sFunc x) (A2 := A2) (c2 := c2) (by rw [e2]; exact l2) (C_map sCap rfl sCap_K g2) (A3 := A3) (c3 := c3) (by rw [e3]; exact l3) (C_map sIns rfl sIns_K g3) (A4 := A4) (c4 := c4) (by rw [e4]; exact l4) (C_map sHandler rfl sHandler_K g4)
  rw [e2, e3, e4] at k
  exact k
/-- Of an image as read. -/
def imgB (x : Image) : Bool := Img.imageB (x.funcs.map sFunc) (x.consts.map sConst)
theorem num_map {x : Image} (hn : ∀ y ∈ x.consts, 0 ≤ y.num ∧ y.num < 18446744073709551616) : ∀ y ∈ x.consts.map sConst, 0 ≤ y.f1 ∧ y.f1 < 18446744073709551616 := by
  intro y hy
  obtain ⟨z, hz, rfl⟩ := List.mem_map.1 hy
  exact hn z hz
theorem cImageOkS (x : Image) (A0 : Option Addr) (c0 : Nat) (A1 : Option Addr) (c1 : Nat) (w : World) (l0 : x.funcs.length ≤ c0) (g0 : kFuncI.C w A0 x.funcs.length x.funcs) (l1 : x.consts.length ≤ c1) (g1 : kConst.C w A1 x.consts.length x.consts) (hn : ∀ y ∈ x.consts, 0 ≤ y.num ∧ y.num < 18446744073709551616) :
    Calls Try.prog 52 #[.agg #[.slice A0 x.funcs.length c0, .slice A1 x.consts.length c1]] w fun e w' => e = .returned (.bool (imgB x)) ∧ Below w.heap.size w w' := by
  have C := spec_ImageOk.calls 700 A0 c0 (x.funcs.map sFunc) A1 c1 (x.consts.map sConst) (imgB x) w (C_map sFunc rfl sFunc_K g0) (by rw [List.length_map]; exact l0) (C_map sConst rfl sConst_K g1) (by rw [List.length_map]; exact l1) (Img.spec_image _ _ (num_map hn) (Nat.le_refl _))
  rw [List.length_map, List.length_map] at C
  exact C
theorem cImageOkI (x : Image) (A0 : Option Addr) (c0 : Nat) (A1 : Option Addr) (c1 : Nat) (w : World) (l0 : x.funcs.length ≤ c0) (g0 : kFuncI.C w A0 x.funcs.length x.funcs) (l1 : x.consts.length ≤ c1) (g1 : kConst.C w A1 x.consts.length x.consts) (hn : ∀ y ∈ x.consts, 0 ≤ y.num ∧ y.num < 18446744073709551616) :
    Calls Try.prog 59 #[.agg #[.slice A0 x.funcs.length c0, .slice A1 x.consts.length c1]] w fun e w' => e = .returned (.bool (imgB x)) ∧ Below w.heap.size w w' := by
  have C := impl_ImageOk.calls 700 A0 c0 (x.funcs.map sFunc) A1 c1 (x.consts.map sConst) (imgB x) w (C_map sFunc rfl sFunc_K g0) (by rw [List.length_map]; exact l0) (C_map sConst rfl sConst_K g1) (by rw [List.length_map]; exact l1) (Img.impl_image _ _ (num_map hn) (Nat.le_refl _))
  rw [List.length_map, List.length_map] at C
  exact C
/-- What a right image's functions are. -/
theorem img_len {x : Image} (h : imgB x = true) : 1 ≤ x.funcs.length ∧ x.funcs.length ≤ 16 ∧ x.consts.length ≤ 40 := by
  unfold imgB Img.imageB Img.inB at h
  simp only [List.length_map, Bool.and_eq_true, decide_eq_true_eq] at h
  omega
theorem img_func {x : Image} (h : imgB x = true) {f : Func} (hf : f ∈ x.funcs) : Img.fB (sFunc f) = true := by
  unfold imgB Img.imageB at h
  simp only [Bool.and_eq_true, List.all_eq_true] at h
  exact h.2.2.2.1 _ (List.mem_map_of_mem hf)
end Go.Proofs.Ytcbaokflimdjnaa
end
section
namespace Go.Proofs.Ytcbaokflimdjnaa.Flow
open Go.Proofs.Ytcbaokflimdjnaa Go.Proofs.Ytcbaokflimdjnaa.PureJoin
set_option linter.unusedVariables false
set_option linter.unusedSimpArgs false
/-- A register holds what is wanted. -/
def regIs (s : State) (r v : Int) : Bool := decide (0 ≤ r ∧ r ≤ (s.regs.length : Int) - 1) && (el 0 s.regs r.toNat == v)
def room (s : State) (r : Int) : Bool := decide (0 ≤ r ∧ r ≤ (s.regs.length : Int) - 1)
def capB (f : Func) (s : State) (c : Cap) : Bool := if c.reg = true then regIs s c.index 2 else decide (c.index < (f.caps.length : Int))
def capsTo (f : Func) (s : State) (cs : List Cap) : Nat → Bool
  | 0 => true
  | j + 1 => capsTo f s cs j && capB f s (el zCap cs j)
def argsTo (s : State) (a : Int) : Nat → Bool
  | 0 => true
  | j + 1 => argsTo s a j && regIs s (a + j) 1
def mayB (x : Image) (f : Func) (i : Ins) (s : State) : Bool :=
  if i.op = 1 then decide (i.a < (x.consts.length : Int))
  else if i.op = 2 then regIs s i.a 1
  else if i.op = 3 then room s i.a && (s.acc == 1)
  else if i.op = 4 then room s i.a && (s.acc == 1)
  else if i.op = 5 then regIs s i.a 2
  else if i.op = 6 then regIs s i.a 2 && (s.acc == 1)
  else if i.op = 7 then decide (i.a < (f.caps.length : Int))
  else if i.op = 8 then decide (i.a < (f.caps.length : Int)) && (s.acc == 1)
  else if i.op = 9 then (decide (1 ≤ i.a ∧ i.a ≤ 11) && regIs s i.b 1) && (s.acc == 1)
  else if i.op = 12 then decide (i.a < (f.code.length : Int))
  else if i.op = 13 then decide (i.a < (f.code.length : Int)) && (s.acc == 1)
  else if i.op = 14 then decide (i.a < (f.code.length : Int)) && (s.acc == 1)
  else if i.op = 15 then decide (1 ≤ i.a ∧ i.a ≤ (x.funcs.length : Int) - 1) && capsTo f s (el zFunc x.funcs i.a.toNat).caps (el zFunc x.funcs i.a.toNat).caps.length
  else if i.op = 16 then argsTo s i.a (i.b.toNat + 1)
  else s.acc == 1
def givesB (op : Int) : Bool := decide (op = 1 ∨ op = 2 ∨ op = 5 ∨ op = 7 ∨ op = 9 ∨ op = 10 ∨ op = 11 ∨ op = 15 ∨ op = 16)
def afterS (i : Ins) (s : State) : State :=
  if givesB i.op = true then ⟨1, s.regs⟩
  else if i.op = 3 then ⟨s.acc, s.regs.set i.a.toNat 1⟩
  else if i.op = 4 then ⟨s.acc, s.regs.set i.a.toNat 2⟩
  else s
structure Fl where
  list : List State
  reached : List Bool
  queue : List Int
  k : Nat
  bad : Bool
/-- A state comes to a place. -/
def come (r : Fl) (p : Nat) (s : State) : Fl :=
  if r.list.length ≤ p then { r with bad := true }
  else if el false r.reached p = true then
    if joinS (el zState r.list p) s = el zState r.list p then r
    else { r with list := r.list.set p (joinS (el zState r.list p) s), reached := r.reached.set p true, queue := r.queue ++ [(p : Int)] }
  else { r with list := r.list.set p s, reached := r.reached.set p true, queue := r.queue ++ [(p : Int)] }
def handsTo (hs : List Handler) (p : Int) (s : State) (r : Fl) : Nat → Fl
  | 0 => r
  | j + 1 => if (el zHandler hs j).from_ ≤ p ∧ p < (el zHandler hs j).to_ then come (handsTo hs p s r j) (el zHandler hs j).target.toNat ⟨1, s.regs⟩ else handsTo hs p s r j
def isJump (op : Int) : Bool := decide (op = 12 ∨ op = 13 ∨ op = 14)
def isEnd (op : Int) : Bool := decide (op = 12 ∨ op = 17 ∨ op = 18)
def jump (r : Fl) (i : Ins) (n : State) : Fl := if isJump i.op = true then come r i.a.toNat n else r
def next (r : Fl) (i : Ins) (p : Nat) (n : State) : Fl := if isEnd i.op = true then r else come r (p + 1) n
def step (x : Image) (f : Func) (r : Fl) : Fl :=
  let p := (el 0 r.queue r.k).toNat
  let s := el zState r.list p
  let i := el zIns f.code p
  let r1 := handsTo f.handlers (p : Int) s { r with k := r.k + 1 } f.handlers.length
  if mayB x f i s = true then next (jump r1 i (afterS i s)) i p (afterS i s) else { r1 with bad := true }
def done (r : Fl) : Prop := r.bad = true ∨ r.queue.length ≤ r.k
instance (r : Fl) : Decidable (done r) := by unfold done; infer_instance
def begin (f : Func) : State := ⟨0, List.replicate f.params.toNat 1 ++ List.replicate (f.regs.toNat - f.params.toNat) 0⟩
def blank (f : Func) : Fl := ⟨List.replicate f.code.length zState, List.replicate f.code.length false, [], 0, false⟩
def start (f : Func) : Fl := come (blank f) 0 (begin f)
def nz (l : List Int) : Nat := l.countP (fun v => v != 0)
def cnt (s : State) : Nat := 1 + (if s.acc = 0 then 0 else 1) + nz s.regs
def wt (R : Nat) (x : State × Bool) : Nat := if x.2 = true then cnt x.1 else R + 3
def pot (R : Nat) (r : Fl) : Nat := ((r.list.zip r.reached).map (wt R)).sum
theorem nz_le (l : List Int) : nz l ≤ l.length := List.countP_le_length
theorem cnt_le {R : Nat} {s : State} (h : s.regs.length = R) : cnt s ≤ R + 2 := by
  have := nz_le s.regs
  have : (if s.acc = 0 then 0 else 1 : Nat) ≤ 1 := by split <;> omega
  unfold cnt
  omega
structure Inv (n R : Nat) (r : Fl) : Prop where
  ll : r.list.length = n
  lr : r.reached.length = n
  qs : ∀ q ∈ r.queue, 0 ≤ q ∧ q.toNat < n ∧ el false r.reached q.toNat = true
  rs : ∀ i : Nat, i < n → el false r.reached i = true → (el zState r.list i).regs.length = R
  pt : pot R r + r.queue.length ≤ (R + 3) * n
  kq : r.k ≤ r.queue.length
/-- What a state's coming changes. -/
structure Step (R : Nat) (r r2 : Fl) : Prop where
  pq : pot R r2 + r2.queue.length ≤ pot R r + r.queue.length
  kk : r2.k = r.k
  ql : r.queue.length ≤ r2.queue.length
  bd : r.bad = true → r2.bad = true
  st : ∀ i : Nat, i < r.queue.length → el 0 r2.queue i = el 0 r.queue i
theorem Step.refl (R : Nat) (r : Fl) : Step R r r := ⟨Nat.le_refl _, rfl, Nat.le_refl _, fun h => h, fun _ _ => rfl⟩
theorem Step.then_ {R : Nat} {a b c : Fl} (h : Step R a b) (g : Step R b c) : Step R a c :=
  ⟨Nat.le_trans g.pq h.pq, g.kk.trans h.kk, Nat.le_trans h.ql g.ql, fun e => g.bd (h.bd e), fun i hi => (g.st i (Nat.lt_of_lt_of_le hi h.ql)).trans (h.st i hi)⟩
theorem Inv.bad {n R : Nat} {r : Fl} (h : Inv n R r) : Inv n R { r with bad := true } := ⟨h.ll, h.lr, h.qs, h.rs, h.pt, h.kq⟩
theorem Step.bad (R : Nat) (r : Fl) : Step R r { r with bad := true } := ⟨Nat.le_refl _, rfl, Nat.le_refl _, fun _ => rfl, fun _ _ => rfl⟩
end Go.Proofs.Ytcbaokflimdjnaa.Flow
end
section
namespace Go.Proofs.Ytcbaokflimdjnaa.Flow
open Go.RowKit Go.Proofs.YtcbaokflimdjnaaW.PrintWords Go.Proofs.YtcbaokflimdjnaaW.PrintMore Go.Proofs.Ytcbaokflimdjnaa.Law Go.Proofs.Ytcbaokflimdjnaa
set_option linter.unusedVariables false
set_option linter.unusedSimpArgs false
set_option autoImplicit false
/-- A state whose registers are neither the box nor what is still to be done. -/
def SOk (g lo : Nat) (W : World) (vt : Value) (s : State) (cs : List Value) : Prop := kStateI.M W lo (fun b => b ≠ g ∧ some b ≠ vt.ownBlock) s cs
/-- A block of others: neither the box nor one of its rows. -/
def BOk (g : Nat) (vl vr vt : Value) (W : World) (b : Nat) (o : Obj) : Prop := W.heap[b]? = some o ∧ b ≠ g ∧ some b ≠ vl.ownBlock ∧ some b ≠ vr.ownBlock ∧ some b ≠ vt.ownBlock
theorem BOk.step {g : Nat} {vl vr vt : Value} {W W2 : World} {b : Nat} {o : Obj} (h : BOk g vl vr vt W b o) (hb : Below W.heap.size W W2) : BOk g vl vr vt W2 b o := ⟨(hb.block b (blk_lt h.1)).trans h.1, h.2⟩
theorem BOk.set {g : Nat} {vl vr vt : Value} {W : World} {b : Nat} {o : Obj} (h : BOk g vl vr vt W b o) (j : Nat) (u : Value) : BOk g vl vr vt (W.setCell ⟨g, j, none⟩ u) b o := ⟨(Below.heap_setCell W ⟨g, j, none⟩ u b h.2.1).trans h.1, h.2⟩
structure Run (t : TypeId) (cs : Array Value) (d g lo : Nat) (w0 W : World) (r : Fl) (vl vr vt : Value) : Prop where
  below : Below w0.heap.size w0 W
  hlo : w0.heap.size ≤ lo
  hg : w0.heap.size ≤ g
  box : W.heap[g]? = some (.cells cs t (0, 0))
  L : kStateI.R 31 W lo (fun b => b ≠ g ∧ some b ≠ vt.ownBlock) vl r.list
  B : Kd.bool.R 4 W lo (fun b => b ≠ g) vr r.reached
  Q : (Kd.int .i64).Q 3 W lo (fun b => b ≠ g) vt (r.queue.drop d)
theorem SOk.step {g lo : Nat} {W W2 : World} {vt : Value} {s : State} {cs : List Value} (h : SOk g lo W vt s cs) (hb : Below W.heap.size W W2) : SOk g lo W2 vt s cs := Kd.M_step h (fun k _ hk => hb.block k hk)
theorem SOk.K {g lo : Nat} {W : World} {vt : Value} {s : State} {cs : List Value} (h : SOk g lo W vt s cs) : kStateI.K W s cs := kStateI.K_of_M h
theorem Run.step {t : TypeId} {cs : Array Value} {d g lo : Nat} {w0 W W2 : World} {r : Fl} {vl vr vt : Value} (h : Run t cs d g lo w0 W r vl vr vt) (hb : Below W.heap.size W W2) : Run t cs d g lo w0 W2 r vl vr vt :=
  ⟨below_step h.below hb, h.hlo, h.hg, blk_below h.box hb, Kd.R_below h.L hb, Kd.R_below h.B hb, Kd.Q_below h.Q hb⟩
/-- A cell of the box is written. -/
theorem Run.set {t : TypeId} {cs cs' : Array Value} {d g lo : Nat} {w0 W : World} {r : Fl} {vl vr vt : Value} (h : Run t cs d g lo w0 W r vl vr vt) (j : Nat) (u : Value) (e : cs.setIfInBounds j u = cs') : Run t cs' d g lo w0 (W.setCell ⟨g, j, none⟩ u) r vl vr vt :=
  ⟨below_set h.below h.hg, h.hlo, h.hg, blk_put h.box j u e, Kd.R_far h.L (fun k hk => hk.1) u, Kd.R_far h.B (fun k hk => hk) u, Kd.Q_far h.Q (fun k hk => hk) u⟩
theorem SOk.set {g lo : Nat} {W : World} {vt : Value} {s : State} {cs : List Value} (h : SOk g lo W vt s cs) (j : Nat) (u : Value) : SOk g lo (W.setCell ⟨g, j, none⟩ u) vt s cs :=
  Kd.M_step h (fun k hk _ => Below.heap_setCell W ⟨g, j, none⟩ u k hk.1)
/-- What is told of the run alone changes. -/
theorem Run.as {t : TypeId} {cs : Array Value} {d g lo : Nat} {w0 W : World} {r r2 : Fl} {vl vr vt : Value} (h : Run t cs d g lo w0 W r vl vr vt) (e1 : r2.list = r.list) (e2 : r2.reached = r.reached) (e3 : r2.queue.drop d = r.queue.drop d) : Run t cs d g lo w0 W r2 vl vr vt := by
  refine ⟨h.below, h.hlo, h.hg, h.box, ?_, ?_, ?_⟩
  · rw [e1]; exact h.L
  · rw [e2]; exact h.B
  · rw [e3]; exact h.Q
end Go.Proofs.Ytcbaokflimdjnaa.Flow
end
section
namespace Go.Proofs.Ytcbaokflimdjnaa.Flow
open Go.RowKit Go.Proofs.YtcbaokflimdjnaaW.PrintWords Go.Proofs.YtcbaokflimdjnaaW.PrintMore Go.Proofs.Ytcbaokflimdjnaa.Law Go.Proofs.Ytcbaokflimdjnaa
set_option linter.unusedVariables false
set_option linter.unusedSimpArgs false
set_option autoImplicit false
structure FnOk (x : Image) (f : Func) : Prop where
  fl : x.funcs.length ≤ 16
  pr : 0 ≤ f.params ∧ f.params ≤ 4
  rg : f.params ≤ f.regs ∧ f.regs ≤ 40
  cl : f.caps.length ≤ 20
  kl : 1 ≤ f.code.length ∧ f.code.length ≤ 300
  hl : f.handlers.length ≤ 40
  code : ∀ i ∈ f.code, (1 ≤ i.op ∧ i.op ≤ 19) ∧ (0 ≤ i.a ∧ i.a ≤ 300) ∧ (0 ≤ i.b ∧ i.b ≤ 300)
  hand : ∀ h ∈ f.handlers, (0 ≤ h.from_ ∧ h.from_ ≤ 300) ∧ (0 ≤ h.to_ ∧ h.to_ ≤ 300) ∧ (0 ≤ h.target ∧ h.target ≤ 300)
theorem fn_ok {x : Image} (h : imgB x = true) {f : Func} (hf : f ∈ x.funcs) : FnOk x f := by
  have hfb := img_func h hf
  have hlen := img_len h
  unfold Img.fB Img.funcB Img.inB at hfb
  simp only [Bool.and_eq_true, decide_eq_true_eq, List.all_eq_true] at hfb
  have h2 : (sFunc f).f2.length = f.caps.length := List.length_map _
  have h3 : (sFunc f).f3.length = f.code.length := List.length_map _
  have h4 : (sFunc f).f4.length = f.handlers.length := List.length_map _
  rw [h2, h3, h4] at hfb
  have p0 : (sFunc f).f0 = f.params := rfl
  have p1 : (sFunc f).f1 = f.regs := rfl
  rw [p0, p1] at hfb
  refine ⟨by omega, by omega, by omega, by omega, by omega, by omega, fun i hi => ?_, fun q hq => ?_⟩
  · have k := hfb.2.2.2.2.2.2.1 (sIns i) (List.mem_map_of_mem hi)
    unfold Img.insB Img.inB at k
    simp only [Bool.and_eq_true, decide_eq_true_eq] at k
    exact ⟨k.1, k.2.1, k.2.2⟩
  · have k := hfb.2.2.2.2.2.2.2 (sHandler q) (List.mem_map_of_mem hq)
    unfold Img.hdB Img.inB at k
    simp only [Bool.and_eq_true, decide_eq_true_eq] at k
    exact ⟨k.1, k.2.1, k.2.2⟩
end Go.Proofs.Ytcbaokflimdjnaa.Flow
end
section
namespace Go.Proofs.Ytcbaokflimdjnaa.Flow
open Go.RowKit Go.Proofs.YtcbaokflimdjnaaW.PrintWords Go.Proofs.YtcbaokflimdjnaaW.PrintLast Go.Proofs.Ytcbaokflimdjnaa.Steps Go.Proofs.YtcbaokflimdjnaaW.PrintMore Go.Proofs.Ytcbaokflimdjnaa.Law Go.Proofs.Ytcbaokflimdjnaa Go.Proofs.Ytcbaokflimdjnaa.QFnExactVerify Go.Proofs.Ytcbaokflimdjnaa.Num
set_option linter.unusedVariables false
set_option linter.unusedSimpArgs false
set_option autoImplicit false
theorem func_at5 {w : World} {A : Option Addr} {l : List Func} (h : kFuncI.C w A l.length l) (j : Nat) (hj : j < l.length) : ∃ a A2 c2 A3 c3 A4 c4, A = some a ∧
    w.cell? (a.add (j * 5)) = some (.int .i64 (el zFunc l j).params) ∧ w.cell? ⟨(a.add (j * 5)).block, (a.add (j * 5)).off + 1, none⟩ = some (.int .i64 (el zFunc l j).regs) ∧ w.cell? ⟨(a.add (j * 5)).block, (a.add (j * 5)).off + 2, none⟩ = some (.slice A2 (el zFunc l j).caps.length c2) ∧ w.cell? ⟨(a.add (j * 5)).block, (a.add (j * 5)).off + 3, none⟩ = some (.slice A3 (el zFunc l j).code.length c3) ∧ w.cell? ⟨(a.add (j * 5)).block, (a.add (j * 5)).off + 4, none⟩ = some (.slice A4 (el zFunc l j).handlers.length c4) ∧
    ((el zFunc l j).caps.length ≤ c2 ∧ kCap.C w A2 (el zFunc l j).caps.length (el zFunc l j).caps) ∧ ((el zFunc l j).code.length ≤ c3 ∧ kIns.C w A3 (el zFunc l j).code.length (el zFunc l j).code) ∧ ((el zFunc l j).handlers.length ≤ c4 ∧ kHandler.C w A4 (el zFunc l j).handlers.length (el zFunc l j).handlers) := by
  obtain ⟨a, A2, c2, A3, c3, A4, c4, e, hK, x0, x1, x2, x3, x4⟩ := FuncI_at h j hj
  obtain ⟨B2, d2, B3, d3, B4, d4, he, l2, g2, l3, g3, l4, g4⟩ := kFuncI_open hK
  cases he
  exact ⟨a, A2, c2, A3, c3, A4, c4, e, x0, x1, x2, x3, x4, ⟨l2, g2⟩, ⟨l3, g3⟩, ⟨l4, g4⟩⟩
end Go.Proofs.Ytcbaokflimdjnaa.Flow
end
