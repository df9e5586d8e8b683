/- The law 'FnExactSameOutcome' returns true, whatever it is handed. No condition beyond what the arguments read as. -/
import Derived.Test.YtdgjbpefbkgnpaaWalkFnExactSameOutcome
import Derived.Test.YtdgjbpefbkgnpaaNum
namespace Go.Proofs.Ytdgjbpefbkgnpaa.LawFnExactSameOutcome
open Go.RowKit Go.Proofs.YtdgjbpefbkgnpaaW.PrintWords Go.Proofs.YtdgjbpefbkgnpaaW.PrintMore Go.Proofs.Ytdgjbpefbkgnpaa.QFnExactSameOutcome Go.Proofs.Ytdgjbpefbkgnpaa.Num
set_option linter.unusedVariables false
set_option linter.unusedSimpArgs false
theorem szstr_loop (l : List ByteArray) (hl : l.length ≤ 1048576) (hs : ∀ s ∈ l, s.size ≤ maxLen) (d : Nat) : ∀ (k j : Nat) (a : Int), j ≤ l.length → l.length - j = d → 0 ≤ a → a ≤ 1048576 → d < k →
    ∃ r, laws_szStringS.l0 k l a (j : Int) = some r ∧ r ≤ a := by
  induction d with
  | zero =>
    intro k j a hj hd h0 h1 hk
    obtain ⟨k, rfl⟩ : ∃ m, k = m + 1 := ⟨k - 1, by omega⟩
    simp only [laws_szStringS.l0]
    rw [if_neg (by omega)]
    exact ⟨_, rfl, by omega⟩
  | succ d ih =>
    intro k j a hj hd h0 h1 hk
    obtain ⟨k, rfl⟩ : ∃ m, k = m + 1 := ⟨k - 1, by omega⟩
    simp only [laws_szStringS.l0]
    have hsz : (rdOf ByteArray.empty l (j : Int)).size ≤ maxLen := by
      unfold rdOf
      rw [Int.toNat_natCast, List.getD_eq_getElem?_getD, List.getElem?_eq_getElem (show j < l.length by omega)]
      exact hs _ (List.getElem_mem _)
    unfold maxLen at hsz
    rw [if_pos (by omega), if_pos (by omega), wrap64_id (n := a - ((rdOf ByteArray.empty l (j : Int)).size : Int)) (by omega) (by omega)]
    by_cases hn : a - ((rdOf ByteArray.empty l (j : Int)).size : Int) < 0
    · rw [if_pos hn]
      exact ⟨_, rfl, by omega⟩
    · rw [if_neg hn, wrap64_id (n := (j : Int) + 1) (by omega) (by omega)]
      obtain ⟨r, e, hr⟩ := ih k (j + 1) (a - ((rdOf ByteArray.empty l (j : Int)).size : Int)) (by omega) (by omega) (by omega) (by omega) (by omega)
      exact ⟨r, e, by omega⟩
theorem szstr_ok (l : List ByteArray) (a : Int) (hm : l.length ≤ maxLen) (hs : ∀ s ∈ l, s.size ≤ maxLen) (h0 : 0 ≤ a) (h1 : a ≤ 1048576) {k : Nat} (hk : 1048577 ≤ k) :
    ∃ r, laws_szStringS.f k l a = some r ∧ r ≤ a ∧ (0 ≤ r → l.length ≤ 1048576) := by
  unfold laws_szStringS.f
  unfold maxLen at hm
  rw [wrap64_id (n := a - (l.length : Int)) (by omega) (by omega)]
  by_cases hn : a - (l.length : Int) < 0
  · rw [if_pos hn]
    exact ⟨_, rfl, by omega, by omega⟩
  · rw [if_neg hn]
    obtain ⟨r, e, hr⟩ := szstr_loop l (by omega) hs l.length k 0 (a - (l.length : Int)) (by omega) (by omega) (by omega) (by omega) (by omega)
    exact ⟨r, e, by omega, fun _ => by omega⟩
theorem tostr_loop (l : List ByteArray) (hl : l.length ≤ 1048576) (d : Nat) : ∀ (k j : Nat) (m : List ByteArray), j ≤ l.length → l.length - j = d → m.length = l.length → (∀ i, i < j → m.getD i ByteArray.empty = l.getD i ByteArray.empty) → d < k →
    laws_toStringS.l0 k l m (j : Int) = some l := by
  induction d with
  | zero =>
    intro k j m hj hd hm he hk
    obtain ⟨k, rfl⟩ : ∃ m, k = m + 1 := ⟨k - 1, by omega⟩
    simp only [laws_toStringS.l0]
    rw [if_neg (by omega)]
    congr 1
    apply List.ext_getElem hm
    intro i h1 h2
    have := he i (by omega)
    simpa [List.getD_eq_getElem?_getD, List.getElem?_eq_getElem h1, List.getElem?_eq_getElem h2] using this
  | succ d ih =>
    intro k j m hj hd hm he hk
    obtain ⟨k, rfl⟩ : ∃ m, k = m + 1 := ⟨k - 1, by omega⟩
    simp only [laws_toStringS.l0]
    rw [if_pos (by omega), if_pos (by omega), if_pos (by omega), wrap64_id (n := (j : Int) + 1) (by omega) (by omega)]
    refine ih k (j + 1) _ (by omega) (by omega) (by simpa using hm) ?_ (by omega)
    intro i hi
    unfold rdOf
    rw [Int.toNat_natCast, List.getD_eq_getElem?_getD, List.getElem?_set]
    by_cases e : j = i
    · rw [if_pos e, if_pos (by omega), e]
      rfl
    · rw [if_neg e, ← List.getD_eq_getElem?_getD]
      exact he i (by omega)
theorem tostr_ok (l : List ByteArray) (hl : l.length ≤ 1048576) {k : Nat} (hk : 1048577 ≤ k) : laws_toStringS.f k l = some l := by
  unfold laws_toStringS.f
  rw [if_pos (by omega), if_pos (by omega)]
  exact tostr_loop l hl l.length k 0 _ (by omega) (by omega) (by simp) (fun i hi => by omega) (by omega)
theorem eqstr_loop (l : List ByteArray) (hl : l.length ≤ 1048576) (d : Nat) : ∀ (k j : Nat), j ≤ l.length → l.length - j = d → d < k → laws_eqStringS.l0 k l l (j : Int) = some true := by
  induction d with
  | zero =>
    intro k j hj hd hk
    obtain ⟨k, rfl⟩ : ∃ m, k = m + 1 := ⟨k - 1, by omega⟩
    simp only [laws_eqStringS.l0]
    rw [if_neg (by omega)]
  | succ d ih =>
    intro k j hj hd hk
    obtain ⟨k, rfl⟩ : ∃ m, k = m + 1 := ⟨k - 1, by omega⟩
    simp only [laws_eqStringS.l0]
    rw [if_pos (by omega), if_pos (by omega), if_pos (by omega), if_pos trivial, wrap64_id (n := (j : Int) + 1) (by omega) (by omega)]
    exact ih k (j + 1) (by omega) (by omega) (by omega)
theorem eqstr_ok (l : List ByteArray) (hl : l.length ≤ 1048576) {k : Nat} (hk : 1048577 ≤ k) : laws_eqStringS.f k l l = some true := by
  unfold laws_eqStringS.f
  rw [if_pos rfl]
  exact eqstr_loop l hl l.length k 0 (by omega) (by omega) (by omega)
theorem szout (a : Int) (s : ByteArray) (l : List ByteArray) (f left : Int) (hs : s.size ≤ maxLen) (hl : l.length ≤ maxLen ∧ ∀ x ∈ l, x.size ≤ maxLen) (h0 : 0 ≤ left) (h1 : left ≤ 1048576) {k : Nat} (hk : 1048577 ≤ k) :
    ∃ r, laws_szOutcome.f k a s l f left = some r ∧ r ≤ left ∧ (0 ≤ r → l.length ≤ 1048576) := by
  unfold laws_szOutcome.f
  unfold maxLen at hs
  rw [wrap64_id (n := left - (s.size : Int)) (by omega) (by omega)]
  by_cases hn : left - (s.size : Int) < 0
  · rw [if_pos hn]
    exact ⟨_, rfl, by omega, by omega⟩
  · rw [if_neg hn]
    obtain ⟨r, e, hr, hb⟩ := szstr_ok l (left - (s.size : Int)) hl.1 hl.2 (by omega) (by omega) hk
    rw [e]
    simp only [Option.bind_some]
    by_cases hr0 : r < 0
    · rw [if_pos hr0]
      exact ⟨_, rfl, by omega, by omega⟩
    · rw [if_neg hr0]
      exact ⟨_, rfl, by omega, hb⟩
theorem toout (a : Int) (s : ByteArray) (l : List ByteArray) (f : Int) (hl : l.length ≤ 1048576) {k : Nat} (hk : 1048577 ≤ k) : laws_toOutcome.f k a s l f = some (a, s, l, f) := by
  unfold laws_toOutcome.f
  rw [tostr_ok l hl hk]
  rfl
theorem eqout (a : Int) (s : ByteArray) (l : List ByteArray) (f : Int) (hl : l.length ≤ 1048576) {k : Nat} (hk : 1048577 ≤ k) : laws_eqOutcome.f k a s l f a s l f = some true := by
  unfold laws_eqOutcome.f
  rw [if_pos rfl, if_pos rfl, eqstr_ok l hl hk]
  simp
theorem slequal_loop (l m : List ByteArray) (hl : l.length ≤ 1048576) (hm : l.length = m.length) (d : Nat) : ∀ (k j : Nat), j ≤ l.length → l.length - j = d → (∀ i, i < j → l.getD i ByteArray.empty = m.getD i ByteArray.empty) → d < k → slices_Equal_string_string.l0 k l m (l.length : Int) (j : Int) = some (decide (l = m)) := by
  induction d with
  | zero =>
    intro k j hj hd he hk
    obtain ⟨k, rfl⟩ : ∃ m, k = m + 1 := ⟨k - 1, by omega⟩
    simp only [slices_Equal_string_string.l0]
    rw [if_neg (by omega)]
    have : l = m := by
      apply List.ext_getElem hm
      intro i h1 h2
      have := he i (by omega)
      simpa [List.getD_eq_getElem?_getD, List.getElem?_eq_getElem h1, List.getElem?_eq_getElem h2] using this
    rw [decide_eq_true this]
  | succ d ih =>
    intro k j hj hd he hk
    obtain ⟨k, rfl⟩ : ∃ m, k = m + 1 := ⟨k - 1, by omega⟩
    simp only [slices_Equal_string_string.l0]
    rw [if_pos (by omega), if_pos (by omega), if_pos (by omega), if_pos (by omega)]
    unfold rdOf
    rw [Int.toNat_natCast]
    by_cases hh : (l.getD j ByteArray.empty).toList = (m.getD j ByteArray.empty).toList
    · rw [if_pos hh, wrap64_id (n := (j : Int) + 1) (by omega) (by omega)]
      refine ih k (j + 1) (by omega) (by omega) (fun i hi => ?_) (by omega)
      rcases Nat.lt_succ_iff_lt_or_eq.1 hi with h | h
      · exact he i h
      · rw [h]
        exact Go.Proofs.Ytdgjbpefbkgnpaa.Law.bytes_ext hh
    · rw [if_neg hh, decide_eq_false (fun e => hh (by rw [e]))]
theorem slequal (l m : List ByteArray) (hl : l.length ≤ 1048576) {k : Nat} (hk : 1048577 ≤ k) : slices_Equal_string_string.f k l m = some (decide (l = m)) := by
  unfold slices_Equal_string_string.f
  by_cases hm : (l.length : Int) = (m.length : Int)
  · rw [if_pos hm]
    exact slequal_loop l m hl (by omega) l.length k 0 (by omega) (by omega) (fun i hi => by omega) (by omega)
  · rw [if_neg hm, decide_eq_false (fun e => hm (by rw [e]))]
theorem spec_loop (a b : Int) (s t : ByteArray) (l m : List ByteArray) (f g : Int) (hl : l.length ≤ 1048576) (hm : l.length = m.length) (q : Nat) : ∀ (k j : Nat), j ≤ l.length → l.length - j = q → (∀ i, i < j → l.getD i ByteArray.empty = m.getD i ByteArray.empty) → q < k →
    spec_SameOutcome.l0 k (j : Int) a s l f b t m g = some (decide (l = m)) := by
  induction q with
  | zero =>
    intro k j hj hd he hk
    obtain ⟨k, rfl⟩ : ∃ m, k = m + 1 := ⟨k - 1, by omega⟩
    simp only [spec_SameOutcome.l0]
    rw [if_neg (by omega)]
    have : l = m := by
      apply List.ext_getElem hm
      intro i h1 h2
      have := he i (by omega)
      simpa [List.getD_eq_getElem?_getD, List.getElem?_eq_getElem h1, List.getElem?_eq_getElem h2] using this
    rw [decide_eq_true this]
  | succ q ih =>
    intro k j hj hd he hk
    obtain ⟨k, rfl⟩ : ∃ m, k = m + 1 := ⟨k - 1, by omega⟩
    simp only [spec_SameOutcome.l0]
    rw [if_pos (by omega), if_pos (by omega), if_pos (by omega)]
    unfold rdOf
    rw [Int.toNat_natCast]
    by_cases hh : (l.getD j ByteArray.empty).toList = (m.getD j ByteArray.empty).toList
    · rw [if_pos hh, wrap64_id (n := (j : Int) + 1) (by omega) (by omega)]
      refine ih k (j + 1) (by omega) (by omega) (fun i hi => ?_) (by omega)
      rcases Nat.lt_succ_iff_lt_or_eq.1 hi with h | h
      · exact he i h
      · rw [h]
        exact Go.Proofs.Ytdgjbpefbkgnpaa.Law.bytes_ext hh
    · rw [if_neg hh, decide_eq_false (fun e => hh (by rw [e]))]
theorem same (a b : Int) (s t : ByteArray) (l m : List ByteArray) (f g : Int) (hl : l.length ≤ 1048576) {k : Nat} (hk : 1048578 ≤ k) : ∃ r, spec_SameOutcome.f k a s l f b t m g = some r ∧ impl_SameOutcome.f k a s l f b t m g = some r := by
  obtain ⟨k, rfl⟩ : ∃ m, k = m + 1 := ⟨k - 1, by omega⟩
  unfold spec_SameOutcome.f impl_SameOutcome.f
  by_cases h1 : a = b
  · by_cases h2 : s.toList = t.toList
    · rw [if_pos h1, if_pos h1, if_pos h2, if_pos h2, slequal l m hl (by omega)]
      simp only [Option.bind_some]
      by_cases h3 : f = g
      · rw [if_pos h3]
        by_cases h4 : l.length = m.length
        · have e : ((l.length : Int) != (m.length : Int)) = false := by simp [h4]
          rw [e]
          simp only [spec_SameOutcome.j0, Bool.false_eq_true, if_false]
          refine ⟨_, spec_loop a b s t l m f g hl h4 l.length k 0 (by omega) (by omega) (fun i hi => by omega) (by omega), ?_⟩
          by_cases h5 : l = m <;> simp [h5, h3]
        · have e : ((l.length : Int) != (m.length : Int)) = true := by simp; omega
          rw [e]
          simp only [spec_SameOutcome.j0, if_true]
          refine ⟨_, rfl, ?_⟩
          rw [decide_eq_false (fun e => h4 (by rw [e]))]
          simp
      · rw [if_neg h3]
        simp only [spec_SameOutcome.j0, if_true]
        refine ⟨_, rfl, ?_⟩
        by_cases h5 : l = m <;> simp [h5, h3]
    · rw [if_pos h1, if_pos h1, if_neg h2, if_neg h2]
      exact ⟨_, by simp only [spec_SameOutcome.j0, if_true], rfl⟩
  · rw [if_neg h1, if_neg h1]
    exact ⟨_, by simp only [spec_SameOutcome.j0, if_true], rfl⟩
theorem law (a0_0 : Int) (a0_1 : ByteArray) (A0_2 : Option Addr) (c0_2 : Nat) (l0_2 : List ByteArray) (a0_3 : Int) (a1_0 : Int) (a1_1 : ByteArray) (A1_2 : Option Addr) (c1_2 : Nat) (l1_2 : List ByteArray) (a1_3 : Int) (w : World) (hr0_2 : Kd.C Kd.string w A0_2 l0_2.length l0_2) (hc0_2 : l0_2.length ≤ c0_2) (hr1_2 : Kd.C Kd.string w A1_2 l1_2.length l1_2) (hc1_2 : l1_2.length ≤ c1_2)
    (g0 : (Lit.int .i64 a0_0).wf = true ∧ a0_1.size ≤ maxLen ∧ (l0_2.length ≤ maxLen ∧ ∀ x ∈ l0_2, x.size ≤ maxLen) ∧ (Lit.int .i64 a0_3).wf = true) (g1 : (Lit.int .i64 a1_0).wf = true ∧ a1_1.size ≤ maxLen ∧ (l1_2.length ≤ maxLen ∧ ∀ x ∈ l1_2, x.size ≤ maxLen) ∧ (Lit.int .i64 a1_3).wf = true) :
    Calls Try.prog 8 #[.agg #[.int .i64 a0_0, .string a0_1, .slice A0_2 l0_2.length c0_2, .int .i64 a0_3], .agg #[.int .i64 a1_0, .string a1_1, .slice A1_2 l1_2.length c1_2, .int .i64 a1_3]] w fun e w' => e = .returned (.bool true) ∧ Below w.heap.size w w' := by
  have K : 1048578 ≤ 1048578 := Nat.le_refl _
  have K0 : 1048577 ≤ 1048578 := by omega
  obtain ⟨s1, h1, i1, j1⟩ := szout a0_0 a0_1 l0_2 a0_3 1048576 g0.2.1 g0.2.2.1 (by omega) (by omega) K0
  by_cases n1 : s1 < 0
  · exact WalkFnExactSameOutcome.w1 _ a0_0 a0_1 A0_2 c0_2 l0_2 a0_3 a1_0 a1_1 A1_2 c1_2 l1_2 a1_3 w hr0_2 hc0_2 hr1_2 hc1_2 s1 h1 n1
  · obtain ⟨s2, h2, i2, j2⟩ := szout a1_0 a1_1 l1_2 a1_3 s1 g1.2.1 g1.2.2.1 (by omega) (by omega) K0
    by_cases n2 : s2 < 0
    · exact WalkFnExactSameOutcome.w2 _ a0_0 a0_1 A0_2 c0_2 l0_2 a0_3 a1_0 a1_1 A1_2 c1_2 l1_2 a1_3 w hr0_2 hc0_2 hr1_2 hc1_2 s1 h1 (by omega) s2 h2 n2
    · have b0 := j1 (by omega)
      have b1 := j2 (by omega)
      obtain ⟨r, h5, h6⟩ := same a0_0 a1_0 a0_1 a1_1 l0_2 l1_2 a0_3 a1_3 b0 K
      exact WalkFnExactSameOutcome.w3 _ a0_0 a0_1 A0_2 c0_2 l0_2 a0_3 a1_0 a1_1 A1_2 c1_2 l1_2 a1_3 w hr0_2 hc0_2 hr1_2 hc1_2 s1 h1 (by omega) s2 h2 (by omega) r (toout _ _ _ _ b0 K0) (toout _ _ _ _ b1 K0) h5 h6 (eqout _ _ _ _ b0 K0) (eqout _ _ _ _ b1 K0)
end Go.Proofs.Ytdgjbpefbkgnpaa.LawFnExactSameOutcome
