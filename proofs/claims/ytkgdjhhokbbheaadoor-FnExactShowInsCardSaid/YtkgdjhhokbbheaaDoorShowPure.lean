/- What an instruction shows: plain words; the two programs' Decimal are one. No condition of its own. -/
import Derived.Test.YtkgdjhhokbbheaaDoorQFnExactShowInsx1
import Derived.Test.YtkgdjhhokbbheaaDoorQFnExactShowInsx2
namespace Go.Proofs.YtkgdjhhokbbheaaDoor.Show
open Go.RowKit Go.Proofs.YtkgdjhhokbbheaaDoorW.PrintWords Go.Proofs.YtkgdjhhokbbheaaDoorW.PrintMore Go.Proofs.YtkgdjhhokbbheaaDoor.QFnExactShowIns
set_option linter.unusedVariables false
set_option linter.unusedSimpArgs false
set_option autoImplicit false
def figN (n : Int) : Int := 48 + ((n.natAbs % 10 : Nat) : Int)
def fig (n : Int) : ByteArray := strOfNums [figN n]
theorem fig_size (n : Int) : (fig n).size = 1 := rfl
def dgl : Nat → Int → ByteArray → ByteArray
  | 0, n, s => fig n ++ s
  | d + 1, n, s => if n.natAbs ≤ 9 then fig n ++ s else dgl d (Int.tdiv n 10) (fig n ++ s)
theorem dgl_size : ∀ (d : Nat) (n : Int) (s : ByteArray), (dgl d n s).size ≤ s.size + d + 1
  | 0, n, s => by rw [dgl, ByteArray.size_append, fig_size]; omega
  | d + 1, n, s => by
    rw [dgl]
    split
    · rw [ByteArray.size_append, fig_size]; omega
    · have := dgl_size d (Int.tdiv n 10) (fig n ++ s)
      rw [ByteArray.size_append, fig_size] at this
      omega
def dec (n : Int) : ByteArray := if n < 0 then (⟨#[45]⟩ : ByteArray) ++ dgl 18 n (⟨#[]⟩ : ByteArray) else dgl 18 n (⟨#[]⟩ : ByteArray)
theorem dec_size (n : Int) : (dec n).size ≤ 20 := by
  have h := dgl_size 18 n (⟨#[]⟩ : ByteArray)
  have e : (⟨#[]⟩ : ByteArray).size = 0 := rfl
  unfold dec
  split
  · rw [ByteArray.size_append, show (⟨#[45]⟩ : ByteArray).size = 1 from rfl]; omega
  · omega
theorem tmod_neg {n : Int} (h : Int.tmod n 10 < 0) : -(Int.tmod n 10) = ((n.natAbs % 10 : Nat) : Int) := by
  have h1 := Int.natAbs_tmod n 10
  have h2 : (Int.tmod n 10).natAbs = n.natAbs % 10 := h1
  omega
theorem tmod_pos {n : Int} (h : ¬ Int.tmod n 10 < 0) : Int.tmod n 10 = ((n.natAbs % 10 : Nat) : Int) := by
  have h1 := Int.natAbs_tmod n 10
  have h2 : (Int.tmod n 10).natAbs = n.natAbs % 10 := h1
  omega
theorem tdiv_abs (n : Int) : (Int.tdiv n 10).natAbs = n.natAbs / 10 := Int.natAbs_tdiv n 10
theorem wrap_small {x : Int} (h0 : -1000 ≤ x) (h1 : x ≤ 1000) : wrap64 x = x := by unfold wrap64; omega
theorem ch1 {n : Int} (h : Int.tmod n 10 < 0) : (wrap64 (48 + (wrap64 (-(Int.tmod n 10))))) % 256 = figN n := by
  rw [tmod_neg h]
  have : n.natAbs % 10 < 10 := Nat.mod_lt _ (by omega)
  rw [wrap_small (x := ((n.natAbs % 10 : Nat) : Int)) (by omega) (by omega), wrap_small (by omega) (by omega)]
  unfold figN
  omega
theorem ch2 {n : Int} (h : ¬ Int.tmod n 10 < 0) : (wrap64 (48 + (Int.tmod n 10))) % 256 = figN n := by
  rw [tmod_pos h]
  have : n.natAbs % 10 < 10 := Nat.mod_lt _ (by omega)
  rw [wrap_small (by omega) (by omega)]
  unfold figN
  omega
theorem fg1 {n : Int} (h : Int.tmod n 10 < 0) : spec_l01Figure.f (wrap64 (-(Int.tmod n 10))) = some (figN n) := by
  have h1 := ch1 h
  have h2 := tmod_neg h
  have : n.natAbs % 10 < 10 := Nat.mod_lt _ (by omega)
  unfold spec_l01Figure.f
  rw [wrap_small (x := -(Int.tmod n 10)) (by omega) (by omega)] at h1 ⊢
  rw [if_pos (by omega), h1]
theorem fg2 {n : Int} (h : ¬ Int.tmod n 10 < 0) : spec_l01Figure.f (Int.tmod n 10) = some (figN n) := by
  have h1 := ch2 h
  have h2 := tmod_pos h
  have : n.natAbs % 10 < 10 := Nat.mod_lt _ (by omega)
  unfold spec_l01Figure.f
  rw [if_pos (by omega), h1]
theorem in9 (n : Int) : impl_within.f n (-9) 9 = some (decide (n.natAbs ≤ 9)) := by
  unfold impl_within.f
  by_cases h : n ≥ -9
  · rw [if_pos h]
    congr 1
    by_cases h2 : n ≤ 9
    · rw [decide_eq_true h2, decide_eq_true (by omega)]
    · rw [decide_eq_false h2, decide_eq_false (by omega)]
  · rw [if_neg h, decide_eq_false (by omega)]
theorem wrap_div {n : Int} {d : Nat} (h : n.natAbs < 10 ^ (d + 1)) (hd : d ≤ 18) : wrap64 (Int.tdiv n 10) = Int.tdiv n 10 := by
  have h1 := tdiv_abs n
  have h2 : 10 ^ (d + 1) ≤ 10 ^ 19 := Nat.pow_le_pow_right (by omega) (by omega)
  unfold wrap64
  omega
theorem lt_div {n : Int} {d : Nat} (h : n.natAbs < 10 ^ (d + 2)) : (Int.tdiv n 10).natAbs < 10 ^ (d + 1) := by
  rw [tdiv_abs]
  rw [Nat.pow_succ] at h
  omega
theorem impl_l0 (x0 : Int) : ∀ (d k : Nat) (n : Int) (s : ByteArray), n.natAbs < 10 ^ (d + 1) → d < k → d ≤ 18 → s.size + d ≤ 100 → impl_Decimal.l0 k x0 s n = some (if x0 < 0 then (⟨#[45]⟩ : ByteArray) ++ dgl d n s else dgl d n s)
  | d, 0, n, s, _, h, _, _ => absurd h (by omega)
  | 0, k + 1, n, s, hn, hk, hd, hs => by
    have g1 : (fig n).size + s.size ≤ 9223372036854775807 := by rw [fig_size]; omega
    have g2 : 1 + (fig n ++ s).size ≤ 9223372036854775807 := by rw [ByteArray.size_append, fig_size]; omega
    have h9 : decide (n.natAbs ≤ 9) = true := decide_eq_true (by have : (10 : Nat) ^ (0 + 1) = 10 := rfl; omega)
    by_cases hm : Int.tmod n 10 < 0
    · rw [impl_Decimal.l0, if_pos hm, Option.bind_some, ch1 hm, show strOfNums [figN n] = fig n from rfl, if_pos g1, in9, h9, Option.bind_some, if_pos rfl, if_pos g2, dgl]
      split <;> rfl
    · rw [impl_Decimal.l0, if_neg hm, Option.bind_some, ch2 hm, show strOfNums [figN n] = fig n from rfl, if_pos g1, in9, h9, Option.bind_some, if_pos rfl, if_pos g2, dgl]
      split <;> rfl
  | d + 1, k + 1, n, s, hn, hk, hd, hs => by
    have g1 : (fig n).size + s.size ≤ 9223372036854775807 := by rw [fig_size]; omega
    have g2 : 1 + (fig n ++ s).size ≤ 9223372036854775807 := by rw [ByteArray.size_append, fig_size]; omega
    have hs2 : (fig n ++ s).size + d ≤ 100 := by rw [ByteArray.size_append, fig_size]; omega
    have ih := impl_l0 x0 d k (Int.tdiv n 10) (fig n ++ s) (lt_div hn) (by omega) (by omega) hs2
    have hw := wrap_div hn hd
    by_cases h9 : n.natAbs ≤ 9
    · have e9 : decide (n.natAbs ≤ 9) = true := decide_eq_true h9
      by_cases hm : Int.tmod n 10 < 0
      · rw [impl_Decimal.l0, if_pos hm, Option.bind_some, ch1 hm, show strOfNums [figN n] = fig n from rfl, if_pos g1, in9, e9, Option.bind_some, if_pos rfl, if_pos g2, dgl, if_pos h9]
        split <;> rfl
      · rw [impl_Decimal.l0, if_neg hm, Option.bind_some, ch2 hm, show strOfNums [figN n] = fig n from rfl, if_pos g1, in9, e9, Option.bind_some, if_pos rfl, if_pos g2, dgl, if_pos h9]
        split <;> rfl
    · have e9 : decide (n.natAbs ≤ 9) = false := decide_eq_false h9
      by_cases hm : Int.tmod n 10 < 0
      · rw [impl_Decimal.l0, if_pos hm, Option.bind_some, ch1 hm, show strOfNums [figN n] = fig n from rfl, if_pos g1, in9, e9, Option.bind_some, if_neg (by decide), hw, ih, dgl, if_neg h9]
      · rw [impl_Decimal.l0, if_neg hm, Option.bind_some, ch2 hm, show strOfNums [figN n] = fig n from rfl, if_pos g1, in9, e9, Option.bind_some, if_neg (by decide), hw, ih, dgl, if_neg h9]
theorem impl_dec (n : Int) (h0 : -9223372036854775808 ≤ n) (h1 : n ≤ 9223372036854775807) : impl_Decimal.f 40 n = some (dec n) := by
  unfold impl_Decimal.f
  rw [impl_l0 n 18 40 n (⟨#[]⟩ : ByteArray) (by have : (10 : Nat) ^ (18 + 1) = 10000000000000000000 := rfl; omega) (by omega) (by omega) (by decide)]
  rfl
theorem spec_l0 (b : Bool) : ∀ (d k : Nat) (n : Int) (s : ByteArray), n ≠ 0 → n.natAbs < 10 ^ (d + 1) → d + 1 < k → d ≤ 18 → s.size + d ≤ 100 → spec_Decimal.l0 k n b s = some (if b = true then (⟨#[45]⟩ : ByteArray) ++ dgl d n s else dgl d n s)
  | d, 0, n, s, _, _, h, _, _ => absurd h (by omega)
  | d, 1, n, s, _, _, h, _, _ => absurd h (by omega)
  | 0, k + 2, n, s, h0, hn, hk, hd, hs => by
    have g1 : (fig n).size + s.size ≤ 9223372036854775807 := by rw [fig_size]; omega
    have g2 : 1 + (fig n ++ s).size ≤ 9223372036854775807 := by rw [ByteArray.size_append, fig_size]; omega
    have h9 : n.natAbs ≤ 9 := by have : (10 : Nat) ^ (0 + 1) = 10 := rfl; omega
    have hz : wrap64 (Int.tdiv n 10) = 0 := by
      have h1 := tdiv_abs n
      have h2 : Int.tdiv n 10 = 0 := by omega
      rw [h2]; exact wrap_small (by omega) (by omega)
    have last : spec_Decimal.l0 (k + 1) 0 b (fig n ++ s) = some (if b = true then (⟨#[45]⟩ : ByteArray) ++ (fig n ++ s) else fig n ++ s) := by
      rw [spec_Decimal.l0, if_pos rfl, if_pos g2]
      split <;> rfl
    by_cases hm : Int.tmod n 10 < 0
    · rw [spec_Decimal.l0, if_neg h0, if_pos hm, fg1 hm, Option.bind_some, Option.bind_some, show strOfNums [figN n] = fig n from rfl, if_pos g1, hz, last, dgl]
    · rw [spec_Decimal.l0, if_neg h0, if_neg hm, fg2 hm, Option.bind_some, Option.bind_some, show strOfNums [figN n] = fig n from rfl, if_pos g1, hz, last, dgl]
  | d + 1, k + 2, n, s, h0, hn, hk, hd, hs => by
    have g1 : (fig n).size + s.size ≤ 9223372036854775807 := by rw [fig_size]; omega
    have g2 : 1 + (fig n ++ s).size ≤ 9223372036854775807 := by rw [ByteArray.size_append, fig_size]; omega
    have hs2 : (fig n ++ s).size + d ≤ 100 := by rw [ByteArray.size_append, fig_size]; omega
    have hw := wrap_div hn hd
    by_cases h9 : n.natAbs ≤ 9
    · have hz : Int.tdiv n 10 = 0 := by
        have h1 := tdiv_abs n
        omega
      have last : spec_Decimal.l0 (k + 1) 0 b (fig n ++ s) = some (if b = true then (⟨#[45]⟩ : ByteArray) ++ (fig n ++ s) else fig n ++ s) := by
        rw [spec_Decimal.l0, if_pos rfl, if_pos g2]
        split <;> rfl
      by_cases hm : Int.tmod n 10 < 0
      · rw [spec_Decimal.l0, if_neg h0, if_pos hm, fg1 hm, Option.bind_some, Option.bind_some, show strOfNums [figN n] = fig n from rfl, if_pos g1, hw, hz, last, dgl, if_pos h9]
      · rw [spec_Decimal.l0, if_neg h0, if_neg hm, fg2 hm, Option.bind_some, Option.bind_some, show strOfNums [figN n] = fig n from rfl, if_pos g1, hw, hz, last, dgl, if_pos h9]
    · have hz : Int.tdiv n 10 ≠ 0 := by
        have h1 := tdiv_abs n
        omega
      have ih := spec_l0 b d (k + 1) (Int.tdiv n 10) (fig n ++ s) hz (lt_div hn) (by omega) (by omega) hs2
      by_cases hm : Int.tmod n 10 < 0
      · rw [spec_Decimal.l0, if_neg h0, if_pos hm, fg1 hm, Option.bind_some, Option.bind_some, show strOfNums [figN n] = fig n from rfl, if_pos g1, hw, ih, dgl, if_neg h9]
      · rw [spec_Decimal.l0, if_neg h0, if_neg hm, fg2 hm, Option.bind_some, Option.bind_some, show strOfNums [figN n] = fig n from rfl, if_pos g1, hw, ih, dgl, if_neg h9]
theorem spec_dec (k : Nat) (hk : 20 ≤ k) (n : Int) (h0 : -9223372036854775808 ≤ n) (h1 : n ≤ 9223372036854775807) : spec_Decimal.f k n = some (dec n) := by
  unfold spec_Decimal.f
  by_cases hz : n = 0
  · subst hz
    rfl
  · rw [if_neg hz, spec_l0 (decide (n < 0)) 18 k n (⟨#[]⟩ : ByteArray) hz (by have : (10 : Nat) ^ (18 + 1) = 10000000000000000000 := rfl; omega) (by omega) (by omega) (by decide)]
    unfold dec
    by_cases h : n < 0 <;> simp [h]
def wordsL : List ByteArray := (spec_l20Words.f).getD []
/-- What an instruction shows. -/
def showB (op a b : Int) : ByteArray :=
  if 1 ≤ op ∧ op ≤ 19 then
    if op = 10 ∨ op = 11 ∨ op = 17 ∨ op = 18 ∨ op = 19 then rdOf ByteArray.empty wordsL op
    else if op = 9 ∨ op = 16 then (((rdOf ByteArray.empty wordsL op ++ (⟨#[32]⟩ : ByteArray)) ++ dec a) ++ (⟨#[32]⟩ : ByteArray)) ++ dec b
    else (rdOf ByteArray.empty wordsL op ++ (⟨#[32]⟩ : ByteArray)) ++ dec a
  else (⟨#[]⟩ : ByteArray)
theorem word_size (op : Int) : (rdOf ByteArray.empty wordsL op).size ≤ 7 := by
  have h : ∀ x ∈ wordsL, x.size ≤ 7 := by decide
  unfold rdOf
  rw [List.getD_eq_getElem?_getD]
  cases hq : wordsL[op.toNat]? with
  | none => decide
  | some y => exact h y (List.mem_of_getElem? hq)
end Go.Proofs.YtkgdjhhokbbheaaDoor.Show
