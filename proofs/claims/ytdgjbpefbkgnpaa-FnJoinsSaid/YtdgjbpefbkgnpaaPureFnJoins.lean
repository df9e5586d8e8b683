/- What the law 'FnJoins' comes to is true, for all bytes. -/
import Derived.Test.YtdgjbpefbkgnpaaQFnJoinsx4
import Derived.Test.YtdgjbpefbkgnpaaNum
namespace Go.Proofs.Ytdgjbpefbkgnpaa.Pure.FnJoins
open Go.RowKit Go.Proofs.Ytdgjbpefbkgnpaa.QFnJoins Go.Proofs.Ytdgjbpefbkgnpaa.Num Go.Proofs.YtdgjbpefbkgnpaaW.PrintWords Go.Proofs.YtdgjbpefbkgnpaaW.PrintMore
set_option linter.unusedVariables false
set_option linter.unusedSimpArgs false
theorem and255 (a : Int) : 0 ≤ Go.bits .and .i64 a 255 ∧ Go.bits .and .i64 a 255 < 256 := by
  unfold Go.bits
  simp only [BitVec.toNat_and]
  have h : (BitVec.ofInt IntKind.i64.bits a).toNat &&& (BitVec.ofInt IntKind.i64.bits 255).toNat ≤ 255 := Nat.le_trans Nat.and_le_right (by decide)
  generalize (BitVec.ofInt IntKind.i64.bits a).toNat &&& (BitVec.ofInt IntKind.i64.bits 255).toNat = n at h
  rw [IntKind.wrap_i64]
  omega
/-- A cursor within its bytes. -/
def Cur (b : List Int) (i : Int) : Prop := 0 ≤ i ∧ i ≤ (b.length : Int) ∧ b.length ≤ 1048576
theorem new_loop (b : List Int) (hb : b.length ≤ 1048576) (d : Nat) : ∀ (k : Nat) (x i : Int), 0 ≤ i → i ≤ (b.length : Int) → (b.length : Int) - i = d → d < k → ∃ h, spec_l01New.l0 k b x i = some (b, 0, h) := by
  induction d with
  | zero =>
    intro k x i h0 h1 hd hk
    obtain ⟨k, rfl⟩ : ∃ m, k = m + 1 := ⟨k - 1, by omega⟩
    simp only [spec_l01New.l0]
    rw [if_neg (by omega)]
    exact ⟨_, rfl⟩
  | succ d ih =>
    intro k x i h0 h1 hd hk
    obtain ⟨k, rfl⟩ : ∃ m, k = m + 1 := ⟨k - 1, by omega⟩
    simp only [spec_l01New.l0]
    rw [if_pos (by omega)]
    by_cases h4 : i < 4000
    · rw [if_pos h4, if_pos h0, wrap64_id (n := i + 1) (by omega) (by omega)]
      exact ih k _ (i + 1) (by omega) (by omega) (by omega) (by omega)
    · rw [if_neg h4]
      exact ⟨_, rfl⟩
theorem new_ok (b : List Int) (hb : b.length ≤ 1048576) {k : Nat} (hk : 1048577 ≤ k) : ∃ h, spec_l01New.f k b = some (b, 0, h) ∧ Cur b 0 := by
  obtain ⟨h, e⟩ := new_loop b hb b.length k (wrap64 (11501 + (b.length : Int))) 0 (by omega) (by omega) (by omega) (by omega)
  exact ⟨h, e, by omega, by omega, hb⟩
theorem byte_ok {b : List Int} {i : Int} (h : Int) (hc : Cur b i) : ∃ x i' h', spec_l01Byte.f b i h = some (x, i', h') ∧ 0 ≤ x ∧ x < 256 ∧ Cur b i' := by
  unfold spec_l01Byte.f
  obtain ⟨h0, h1, h2⟩ := hc
  by_cases hl : i < (b.length : Int)
  · rw [if_pos hl, if_pos h0, wrap64_id (n := i + 1) (by omega) (by omega)]
    exact ⟨_, _, _, rfl, (and255 _).1, (and255 _).2, by omega, by omega, h2⟩
  · rw [if_neg hl]
    exact ⟨_, _, _, rfl, (and255 _).1, (and255 _).2, h0, h1, h2⟩
theorem below_ok {b : List Int} {i : Int} (h n : Int) (hc : Cur b i) (hn : n ≤ 4294967296) : ∃ x i' h', spec_l01Below.f b i h n = some (x, i', h') ∧ 0 ≤ x ∧ (0 < n → x < n) ∧ Cur b i' := by
  unfold spec_l01Below.f
  by_cases h0 : n ≤ 0
  · rw [if_pos h0]
    exact ⟨_, _, _, rfl, by omega, by omega, hc⟩
  · rw [if_neg h0]
    by_cases h1 : n ≤ 256
    · rw [if_pos h1]
      obtain ⟨x, i1, h1, e, hx, hx1, hc1⟩ := byte_ok h hc
      rw [e]
      simp only [Option.bind_some]
      rw [if_neg (by omega)]
      refine ⟨_, _, _, rfl, Int.tmod_nonneg _ hx, fun _ => ?_, hc1⟩
      rw [tmod_pos hx]
      exact Int.emod_lt_of_pos _ (by omega)
    · rw [if_neg h1]
      obtain ⟨x, i1, h1, e1, hx, hx1, hc1⟩ := byte_ok h hc
      obtain ⟨y, i2, h2, e2, hy, hy1, hc2⟩ := byte_ok h1 hc1
      obtain ⟨z, i3, h3, e3, hz, hz1, hc3⟩ := byte_ok h2 hc2
      obtain ⟨w, i4, h4, e4, hw, hw1, hc4⟩ := byte_ok h3 hc3
      simp only [e1, e2, e3, e4, Option.bind_some]
      rw [if_neg (by omega)]
      rw [wrap64_id (n := x * 16777216) (by omega) (by omega), wrap64_id (n := y * 65536) (by omega) (by omega), wrap64_id (n := z * 256) (by omega) (by omega), wrap64_id (n := x * 16777216 + y * 65536) (by omega) (by omega), wrap64_id (n := x * 16777216 + y * 65536 + z * 256) (by omega) (by omega), wrap64_id (n := x * 16777216 + y * 65536 + z * 256 + w) (by omega) (by omega)]
      refine ⟨_, _, _, rfl, Int.tmod_nonneg _ (by omega), fun _ => ?_, hc4⟩
      rw [tmod_pos (by omega)]
      exact Int.emod_lt_of_pos _ (by omega)
theorem pickint_ok {b : List Int} {i : Int} (h : Int) (l : List Int) (hc : Cur b i) (h0 : 0 < l.length) (h1 : l.length ≤ 256) : ∃ x i' h', spec_l01PickInt.f b i h l = some (x, i', h') ∧ Cur b i' := by
  unfold spec_l01PickInt.f
  obtain ⟨x, i1, h1, e, hx, hx1, hc1⟩ := below_ok h (l.length : Int) hc (by omega)
  have := hx1 (by omega)
  rw [e]
  simp only [Option.bind_some]
  rw [if_pos hx, if_pos this]
  exact ⟨_, _, _, rfl, hc1⟩
theorem once_ok {b : List Int} {i : Int} (h n : Int) (hc : Cur b i) (hn : n ≤ 4294967296) : ∃ x i' h', spec_l01Once.f b i h n = some (x, i', h') ∧ Cur b i' := by
  unfold spec_l01Once.f
  obtain ⟨x, i1, h1, e, _, _, hc1⟩ := below_ok h n hc hn
  rw [e]
  exact ⟨_, _, _, rfl, hc1⟩
theorem state_loop {b : List Int} (n acc : Int) (hn : n ≤ 1000) (d : Nat) : ∀ (k : Nat) (j i h : Int) (l : List Int), Cur b i → 0 ≤ j → (l.length : Int) = j → n - j = d ∨ (n ≤ j ∧ d = 0) → d < k → l.length ≤ 1000 →
    ∃ l' i' h', spec_l16State.l0 k n j b i h acc l = some (acc, l', i', h') ∧ l'.length ≤ 1000 ∧ Cur b i' := by
  induction d with
  | zero =>
    intro k j i h l hc h0 hl hd hk hm
    obtain ⟨k, rfl⟩ : ∃ m, k = m + 1 := ⟨k - 1, by omega⟩
    simp only [spec_l16State.l0]
    rw [if_neg (by omega)]
    exact ⟨_, _, _, rfl, hm, hc⟩
  | succ d ih =>
    intro k j i h l hc h0 hl hd hk hm
    obtain ⟨k, rfl⟩ : ∃ m, k = m + 1 := ⟨k - 1, by omega⟩
    simp only [spec_l16State.l0]
    rw [if_pos (by omega)]
    obtain ⟨x, i1, h1, e, hc1⟩ := pickint_ok h [0, 1, 1, 1, 2] hc (by decide) (by decide)
    rw [e]
    simp only [Option.bind_some]
    rw [if_pos (by omega), wrap64_id (n := j + 1) (by omega) (by omega)]
    exact ih k (j + 1) i1 h1 (l ++ [x]) hc1 (by omega) (by simp; omega) (by omega) (by omega) (by simp; omega)
theorem state_ok {b : List Int} {i : Int} (h n : Int) (hc : Cur b i) (hn : n ≤ 1000) {k : Nat} (hk : 1048577 ≤ k) : ∃ a l i' h', spec_l16State.f k b i h n = some (a, l, i', h') ∧ l.length ≤ 1000 ∧ Cur b i' := by
  unfold spec_l16State.f
  obtain ⟨x, i1, h1, e, _, _, hc1⟩ := below_ok h 2 hc (by omega)
  rw [e]
  simp only [Option.bind_some]
  obtain ⟨l, i2, h2, e2, hl, hc2⟩ := state_loop (b := b) n x hn n.toNat k 0 i1 h1 [] hc1 (by omega) (by simp) (by omega) (by omega) (by simp)
  exact ⟨_, _, _, _, e2, hl, hc2⟩
theorem draw_ok (b : List Int) (hb : b.length ≤ 1048576) {k : Nat} (hk : 1048577 ≤ k) : ∃ a l a' l', spec_DrawJoin.f k b = some (a, l, a', l') ∧ l.length ≤ 1000 ∧ l'.length ≤ 1000 := by
  unfold spec_DrawJoin.f
  obtain ⟨h, e, hc⟩ := new_ok b hb hk
  rw [e]
  simp only [Option.bind_some]
  obtain ⟨n, i1, h1, e1, hn0, hn1, hc1⟩ := below_ok h 6 hc (by omega)
  have := hn1 (by omega)
  rw [e1]
  simp only [Option.bind_some]
  obtain ⟨a, l, i2, h2, e2, hl, hc2⟩ := state_ok h1 n hc1 (by omega) hk
  rw [e2]
  simp only [Option.bind_some]
  obtain ⟨x, i3, h3, e3, hc3⟩ := once_ok h2 4 hc2 (by omega)
  rw [e3]
  simp only [Option.bind_some]
  cases x with
  | true =>
    simp only [if_true]
    obtain ⟨m, i4, h4, e4, hm0, hm1, hc4⟩ := below_ok h3 6 hc3 (by omega)
    have := hm1 (by omega)
    rw [e4]
    simp only [Option.bind_some]
    obtain ⟨a', l', i5, h5, e5, hl', hc5⟩ := state_ok h4 m hc4 (by omega) hk
    rw [e5]
    exact ⟨_, _, _, _, rfl, hl, hl'⟩
  | false =>
    simp only [Bool.false_eq_true, if_false]
    obtain ⟨a', l', i5, h5, e5, hl', hc5⟩ := state_ok h3 n hc3 (by omega) hk
    rw [e5]
    exact ⟨_, _, _, _, rfl, hl, hl'⟩

/-- What both have alike, place by place. -/
def alike (l m : List Int) (i : Nat) : Int := if i < l.length ∧ i < m.length ∧ l.getD i 0 = m.getD i 0 then l.getD i 0 else 0
theorem alike_comm (l m : List Int) (i : Nat) : alike l m i = alike m l i := by
  unfold alike
  by_cases h : i < l.length ∧ i < m.length ∧ l.getD i 0 = m.getD i 0
  · rw [if_pos h, if_pos ⟨h.2.1, h.1, h.2.2.symm⟩]
    exact h.2.2
  · rw [if_neg h, if_neg (fun k => h ⟨k.2.1, k.1, k.2.2.symm⟩)]
def joined (l m : List Int) : List Int := (List.range (max l.length m.length)).map (alike l m)
theorem joined_comm (l m : List Int) : joined l m = joined m l := by
  unfold joined
  rw [Nat.max_comm]
  exact List.map_congr_left (fun i _ => alike_comm l m i)
theorem joined_self (l : List Int) : joined l l = l := by
  apply List.ext_getElem
  · simp [joined]
  · intro i h1 h2
    simp [joined, alike, h2]
theorem joined_length (l m : List Int) : (joined l m).length = max l.length m.length := by simp [joined]
theorem joined_get (l m : List Int) (i : Nat) (h : i < (joined l m).length) : (joined l m).getD i 0 = alike l m i := by
  rw [List.getD_eq_getElem?_getD, List.getElem?_eq_getElem h]
  simp [joined]
theorem join_loop (acc accA accB : Int) (l m : List Int) (hl : l.length ≤ 1000) (hm : m.length ≤ 1000) (d : Nat) : ∀ (k j : Nat), j ≤ max l.length m.length → max l.length m.length - j = d → d < k →
    impl_Join.l0 k (mx (l.length : Int) (m.length : Int)) (j : Int) accA l accB m acc ((List.range j).map (alike l m)) = some (acc, joined l m) := by
  have hmx : mx (l.length : Int) (m.length : Int) = ((max l.length m.length : Nat) : Int) := by
    unfold mx
    split <;> omega
  rw [hmx]
  induction d with
  | zero =>
    intro k j hj hd hk
    obtain ⟨k, rfl⟩ : ∃ m, k = m + 1 := ⟨k - 1, by omega⟩
    have : j = max l.length m.length := by omega
    subst this
    simp only [impl_Join.l0]
    rw [if_neg (by omega)]
    rfl
  | succ d ih =>
    intro k j hj hd hk
    obtain ⟨k, rfl⟩ : ∃ m, k = m + 1 := ⟨k - 1, by omega⟩
    have hlen : ((List.range j).map (alike l m)).length < 17592186044416 := by simp; omega
    have hstep : (List.range (j + 1)).map (alike l m) = (List.range j).map (alike l m) ++ [alike l m j] := by rw [List.range_succ, List.map_append]; rfl
    have hnext := ih k (j + 1) (by omega) (by omega) (by omega)
    rw [hstep] at hnext
    have hw : wrap64 ((j : Int) + 1) = ((j + 1 : Nat) : Int) := by rw [wrap64_id (by omega) (by omega)]; rfl
    simp only [impl_Join.l0]
    rw [if_pos (by omega), hw]
    by_cases h1 : (j : Int) < (l.length : Int)
    · by_cases h2 : (j : Int) < (m.length : Int)
      · rw [if_pos h1, if_pos h2, if_pos (by omega)]
        by_cases h3 : rd l (j : Int) = rd m (j : Int)
        · have e : alike l m j = rd l (j : Int) := by
            unfold rd at h3 ⊢
            unfold alike
            rw [Int.toNat_natCast] at h3 ⊢
            rw [if_pos ⟨by omega, by omega, h3⟩]
          rw [if_pos h3, if_pos hlen, ← e]
          exact hnext
        · have e : alike l m j = 0 := by
            unfold rd at h3
            unfold alike
            rw [Int.toNat_natCast] at h3
            rw [if_neg (fun k => h3 k.2.2)]
          rw [if_neg h3, if_pos hlen, ← e]
          exact hnext
      · have e : alike l m j = 0 := by unfold alike; rw [if_neg (fun k => by omega)]
        rw [if_pos h1, if_neg h2, if_pos hlen, ← e]
        exact hnext
    · have e : alike l m j = 0 := by unfold alike; rw [if_neg (fun k => by omega)]
      rw [if_neg h1, if_pos hlen, ← e]
      exact hnext
theorem join_ok (a : Int) (l : List Int) (b : Int) (m : List Int) (hl : l.length ≤ 1000) (hm : m.length ≤ 1000) {k : Nat} (hk : 1048577 ≤ k) : impl_Join.f k a l b m = some (if a = b then a else 0, joined l m) := by
  obtain ⟨k, rfl⟩ : ∃ m, k = m + 1 := ⟨k - 1, by omega⟩
  have h := fun acc => join_loop acc a b l m hl hm (max l.length m.length) k 0 (by omega) (by omega) (by omega)
  unfold impl_Join.f
  by_cases e : a = b
  · rw [if_pos e, if_pos e]
    exact h a
  · rw [if_neg e, if_neg e]
    exact h 0
theorem same_loop (l : List Int) (hl : l.length ≤ 1000) (d : Nat) : ∀ (k j : Nat), j ≤ l.length → l.length - j = d → d < k → laws_sameInts.l0 k l l (j : Int) = some true := by
  induction d with
  | zero =>
    intro k j hj hd hk
    obtain ⟨k, rfl⟩ : ∃ m, k = m + 1 := ⟨k - 1, by omega⟩
    simp only [laws_sameInts.l0]
    rw [if_neg (by omega)]
  | succ d ih =>
    intro k j hj hd hk
    obtain ⟨k, rfl⟩ : ∃ m, k = m + 1 := ⟨k - 1, by omega⟩
    have hw : wrap64 ((j : Int) + 1) = ((j + 1 : Nat) : Int) := by rw [wrap64_id (by omega) (by omega)]; rfl
    simp only [laws_sameInts.l0]
    rw [if_pos (by omega), if_pos (by omega), if_pos (by omega), if_pos trivial, hw]
    exact ih k (j + 1) (by omega) (by omega) (by omega)
theorem same_ok (l : List Int) (hl : l.length ≤ 1000) {k : Nat} (hk : 1048577 ≤ k) : laws_sameInts.f k l l = some true := by
  unfold laws_sameInts.f
  rw [if_pos rfl]
  exact same_loop l hl l.length k 0 (by omega) (by omega) (by omega)
theorem law_loop (a : Int) (l : List Int) (b : Int) (m : List Int) (hl : l.length ≤ 1000) (hm : m.length ≤ 1000) (d : Nat) : ∀ (k j : Nat), j ≤ (joined l m).length → (joined l m).length - j = d → d < k →
    laws_FnJoins.l0 k (j : Int) a l b m (if a = b then a else 0) (joined l m) = some true := by
  have hlen := joined_length l m
  induction d with
  | zero =>
    intro k j hj hd hk
    obtain ⟨k, rfl⟩ : ∃ m, k = m + 1 := ⟨k - 1, by omega⟩
    simp only [laws_FnJoins.l0]
    rw [if_neg (by omega)]
    by_cases e : a = b
    · simp [e]
    · simp [e]
  | succ d ih =>
    intro k j hj hd hk
    obtain ⟨k, rfl⟩ : ∃ m, k = m + 1 := ⟨k - 1, by omega⟩
    have hw : wrap64 ((j : Int) + 1) = ((j + 1 : Nat) : Int) := by rw [wrap64_id (by omega) (by omega)]; rfl
    have hnext := ih k (j + 1) (by omega) (by omega) (by omega)
    have hg : rd (joined l m) (j : Int) = alike l m j := by
      unfold rd
      rw [Int.toNat_natCast]
      exact joined_get l m j (by omega)
    simp only [laws_FnJoins.l0]
    rw [if_pos (by omega), if_pos (by omega), hw, hnext, hg]
    by_cases h0 : alike l m j = 0
    · rw [if_pos h0]
    · have hh : j < l.length ∧ j < m.length ∧ l.getD j 0 = m.getD j 0 := by
        by_cases hh : j < l.length ∧ j < m.length ∧ l.getD j 0 = m.getD j 0
        · exact hh
        · exact absurd (by unfold alike; rw [if_neg hh]) h0
      have e1 : alike l m j = rd l (j : Int) := by
        unfold rd alike
        rw [Int.toNat_natCast, if_pos hh]
      have e2 : alike l m j = rd m (j : Int) := by
        unfold rd alike
        rw [Int.toNat_natCast, if_pos hh, hh.2.2]
      rw [if_neg h0, if_neg (by omega), if_neg (by omega), if_pos (by omega), if_pos e1, if_pos (by omega), if_pos e2]
theorem law (b : List Int) : laws_FnJoins.f 1100000 b = some true := by
  unfold laws_FnJoins.f laws_big.f
  simp only [Option.bind_some]
  by_cases hb : (b.length : Int) > 1048576
  · simp [hb]
  · have hb' : b.length ≤ 1048576 := by omega
    have hbd : decide ((b.length : Int) > 1048576) = false := by simpa using hb
    obtain ⟨a, l, a', m, e, hl, hm⟩ := draw_ok b hb' (k := 1100000) (by omega)
    rw [hbd, e]
    simp only [Option.bind_some, Bool.false_eq_true, if_false]
    rw [join_ok a l a' m hl hm (by omega), join_ok a' m a l hm hl (by omega), join_ok a l a l hl hl (by omega)]
    simp only [Option.bind_some]
    have hc : (if a' = a then a' else 0) = (if a = a' then a else 0) := by
      by_cases e : a = a'
      · simp [e]
      · rw [if_neg e, if_neg (fun h => e h.symm)]
    rw [hc, if_pos rfl, joined_comm m l, joined_self l, same_ok (joined l m) (by rw [joined_length]; omega) (by omega), same_ok l hl (by omega)]
    simp only [Option.bind_some, if_true]
    have := law_loop a l a' m hl hm (joined l m).length 1099999 0 (by omega) (by omega) (by rw [joined_length]; omega)
    simp only [laws_FnJoins.j0, Bool.not_true, Bool.false_eq_true, if_false]
    exact this
end Go.Proofs.Ytdgjbpefbkgnpaa.Pure.FnJoins
namespace Go.Proofs.Ytdgjbpefbkgnpaa.Pure
theorem FnJoins (b : List Int) (_h : ∀ x ∈ b, (Lit.int .u8 x).wf = true) : ∃ k, QFnJoins.laws_FnJoins.f k b = some true := ⟨1100000, FnJoins.law b⟩
end Go.Proofs.Ytdgjbpefbkgnpaa.Pure
