/- What spec.Join and impl.Join come to, for all states; and their contracts in these words. No condition beyond what the arguments read as, and that no list is beyond 1048576. -/
import Derived.Test.YtdgjbpefbkgnpaaQFnExactJoinx3
import Derived.Test.YtdgjbpefbkgnpaaQFnExactJoinx2
import Derived.Test.YtdgjbpefbkgnpaaQFnExactJoinx1
import Derived.Test.YtdgjbpefbkgnpaaNum
import Derived.Test.YtdgjbpefbkgnpaaKinds
namespace Go.Proofs.Ytdgjbpefbkgnpaa.PureJoin
open Go.RowKit Go.Proofs.Ytdgjbpefbkgnpaa.QFnExactJoin Go.Proofs.Ytdgjbpefbkgnpaa.Num Go.Proofs.YtdgjbpefbkgnpaaW.PrintWords Go.Proofs.YtdgjbpefbkgnpaaW.PrintMore
set_option linter.unusedVariables false
set_option linter.unusedSimpArgs false
/-- What both have alike, place by place. -/
def alike (l m : List Int) (i : Nat) : Int := if i < l.length ∧ i < m.length ∧ l.getD i 0 = m.getD i 0 then l.getD i 0 else 0
theorem alike_comm (l m : List Int) (i : Nat) : alike l m i = alike m l i := by
  unfold alike
  by_cases h : i < l.length ∧ i < m.length ∧ l.getD i 0 = m.getD i 0
  · rw [if_pos h, if_pos ⟨h.2.1, h.1, h.2.2.symm⟩]
    exact h.2.2
  · rw [if_neg h, if_neg (fun k => h ⟨k.2.1, k.1, k.2.2.symm⟩)]
def joined (l m : List Int) : List Int := (List.range (max l.length m.length)).map (alike l m)
theorem joined_comm (l m : List Int) : joined l m = joined m l := by
  unfold joined
  rw [Nat.max_comm]
  exact List.map_congr_left (fun i _ => alike_comm l m i)
theorem joined_self (l : List Int) : joined l l = l := by
  apply List.ext_getElem
  · simp [joined]
  · intro i h1 h2
    simp [joined, alike, h2]
theorem joined_length (l m : List Int) : (joined l m).length = max l.length m.length := by simp [joined]
theorem joined_get (l m : List Int) (i : Nat) (h : i < (joined l m).length) : (joined l m).getD i 0 = alike l m i := by
  rw [List.getD_eq_getElem?_getD, List.getElem?_eq_getElem h]
  simp [joined]
theorem join_loop (acc accA accB : Int) (l m : List Int) (hl : l.length ≤ 1048576) (hm : m.length ≤ 1048576) (d : Nat) : ∀ (k j : Nat), j ≤ max l.length m.length → max l.length m.length - j = d → d < k →
    impl_Join.l0 k (mx (l.length : Int) (m.length : Int)) (j : Int) accA l accB m acc ((List.range j).map (alike l m)) = some (acc, joined l m) := by
  have hmx : mx (l.length : Int) (m.length : Int) = ((max l.length m.length : Nat) : Int) := by
    unfold mx
    split <;> omega
  rw [hmx]
  induction d with
  | zero =>
    intro k j hj hd hk
    obtain ⟨k, rfl⟩ : ∃ m, k = m + 1 := ⟨k - 1, by omega⟩
    have : j = max l.length m.length := by omega
    subst this
    simp only [impl_Join.l0]
    rw [if_neg (by omega)]
    rfl
  | succ d ih =>
    intro k j hj hd hk
    obtain ⟨k, rfl⟩ : ∃ m, k = m + 1 := ⟨k - 1, by omega⟩
    have hlen : ((List.range j).map (alike l m)).length < 17592186044416 := by simp; omega
    have hstep : (List.range (j + 1)).map (alike l m) = (List.range j).map (alike l m) ++ [alike l m j] := by rw [List.range_succ, List.map_append]; rfl
    have hnext := ih k (j + 1) (by omega) (by omega) (by omega)
    rw [hstep] at hnext
    have hw : wrap64 ((j : Int) + 1) = ((j + 1 : Nat) : Int) := by rw [wrap64_id (by omega) (by omega)]; rfl
    simp only [impl_Join.l0]
    rw [if_pos (by omega), hw]
    by_cases h1 : (j : Int) < (l.length : Int)
    · by_cases h2 : (j : Int) < (m.length : Int)
      · rw [if_pos h1, if_pos h2, if_pos (by omega)]
        by_cases h3 : rd l (j : Int) = rd m (j : Int)
        · have e : alike l m j = rd l (j : Int) := by
            unfold rd at h3 ⊢
            unfold alike
            rw [Int.toNat_natCast] at h3 ⊢
            rw [if_pos ⟨by omega, by omega, h3⟩]
          rw [if_pos h3, if_pos hlen, ← e]
          exact hnext
        · have e : alike l m j = 0 := by
            unfold rd at h3
            unfold alike
            rw [Int.toNat_natCast] at h3
            rw [if_neg (fun k => h3 k.2.2)]
          rw [if_neg h3, if_pos hlen, ← e]
          exact hnext
      · have e : alike l m j = 0 := by unfold alike; rw [if_neg (fun k => by omega)]
        rw [if_pos h1, if_neg h2, if_pos hlen, ← e]
        exact hnext
    · have e : alike l m j = 0 := by unfold alike; rw [if_neg (fun k => by omega)]
      rw [if_neg h1, if_pos hlen, ← e]
      exact hnext
theorem join_ok (a : Int) (l : List Int) (b : Int) (m : List Int) (hl : l.length ≤ 1048576) (hm : m.length ≤ 1048576) {k : Nat} (hk : 1048580 ≤ k) : impl_Join.f k a l b m = some (if a = b then a else 0, joined l m) := by
  obtain ⟨k, rfl⟩ : ∃ m, k = m + 1 := ⟨k - 1, by omega⟩
  have h := fun acc => join_loop acc a b l m hl hm (max l.length m.length) k 0 (by omega) (by omega) (by omega)
  unfold impl_Join.f
  by_cases e : a = b
  · rw [if_pos e, if_pos e]
    exact h a
  · rw [if_neg e, if_neg e]
    exact h 0
theorem alike_out (l m : List Int) {j : Nat} (h : ¬ (j < l.length ∧ j < m.length)) : alike l m j = 0 := by unfold alike; rw [if_neg (fun k => h ⟨k.1, k.2.1⟩)]
theorem range_step (l m : List Int) (j : Nat) : (List.range (j + 1)).map (alike l m) = (List.range j).map (alike l m) ++ [alike l m j] := by rw [List.range_succ, List.map_append]; rfl
theorem spec_l1 (acc accA accB : Int) (l m : List Int) (hl : l.length ≤ 1048576) (hm : m.length ≤ 1048576) (d : Nat) : ∀ (k j : Nat), min l.length m.length ≤ j → j ≤ max l.length m.length → max l.length m.length - j = d → d < k →
    spec_Join.l1 k (j : Int) accA l accB m acc ((List.range j).map (alike l m)) = some (acc, joined l m) := by
  induction d with
  | zero =>
    intro k j h0 hj hd hk
    obtain ⟨k, rfl⟩ : ∃ m, k = m + 1 := ⟨k - 1, by omega⟩
    have : j = max l.length m.length := by omega
    subst this
    simp only [spec_Join.l1]
    rw [if_neg (by omega), if_neg (by omega)]
    rfl
  | succ d ih =>
    intro k j h0 hj hd hk
    obtain ⟨k, rfl⟩ : ∃ m, k = m + 1 := ⟨k - 1, by omega⟩
    have hlen : ((List.range j).map (alike l m)).length < 17592186044416 := by simp; omega
    have hnext := ih k (j + 1) (by omega) (by omega) (by omega) (by omega)
    rw [range_step, alike_out l m (by omega)] at hnext
    have hw : wrap64 ((j : Int) + 1) = ((j + 1 : Nat) : Int) := by rw [wrap64_id (by omega) (by omega)]; rfl
    simp only [spec_Join.l1]
    rw [if_pos hlen, hw, hnext]
    by_cases h1 : (j : Int) < (l.length : Int)
    · rw [if_pos h1]
    · rw [if_neg h1, if_pos (by omega)]
theorem spec_l0 (acc accA accB : Int) (l m : List Int) (hl : l.length ≤ 1048576) (hm : m.length ≤ 1048576) (d : Nat) : ∀ (k j : Nat), j ≤ min l.length m.length → min l.length m.length - j = d → 2 * d + max l.length m.length + 3 < k →
    spec_Join.l0 k (j : Int) accA l accB m acc ((List.range j).map (alike l m)) = some (acc, joined l m) := by
  induction d with
  | zero =>
    intro k j hj hd hk
    obtain ⟨k, rfl⟩ : ∃ m, k = m + 2 := ⟨k - 2, by omega⟩
    have hn := spec_l1 acc accA accB l m hl hm (max l.length m.length - j) k j (by omega) (by omega) rfl (by omega)
    have hlen : (((List.range j).map (alike l m)).length : Int) = (j : Int) := by simp
    simp only [spec_Join.l0]
    by_cases h1 : (j : Int) < (l.length : Int)
    · rw [if_pos h1, decide_eq_false (by omega : ¬ (j : Int) < (m.length : Int))]
      simp only [spec_Join.j2]
      rw [if_neg (by decide), hlen]
      exact hn
    · rw [if_neg h1]
      simp only [spec_Join.j2]
      rw [if_neg (by decide), hlen]
      exact hn
  | succ d ih =>
    intro k j hj hd hk
    obtain ⟨k, rfl⟩ : ∃ m, k = m + 2 := ⟨k - 2, by omega⟩
    have hlen : ((List.range j).map (alike l m)).length < 17592186044416 := by simp; omega
    have hnext := ih k (j + 1) (by omega) (by omega) (by omega)
    rw [range_step] at hnext
    have hw : wrap64 ((j : Int) + 1) = ((j + 1 : Nat) : Int) := by rw [wrap64_id (by omega) (by omega)]; rfl
    simp only [spec_Join.l0]
    rw [if_pos (by omega), decide_eq_true (by omega : (j : Int) < (m.length : Int))]
    simp only [spec_Join.j2]
    rw [if_pos trivial, if_pos (by omega), if_pos (by omega), if_pos (by omega), if_pos hlen, if_pos hlen, hw]
    by_cases h3 : rd l (j : Int) = rd m (j : Int)
    · have e : alike l m j = rd l (j : Int) := by
        unfold rd at h3 ⊢
        unfold alike
        rw [Int.toNat_natCast] at h3 ⊢
        rw [if_pos ⟨by omega, by omega, h3⟩]
      rw [if_pos h3, ← e]
      exact hnext
    · have e : alike l m j = 0 := by
        unfold rd at h3
        unfold alike
        rw [Int.toNat_natCast] at h3
        rw [if_neg (fun k => h3 k.2.2)]
      rw [if_neg h3, ← e]
      exact hnext
theorem spec_ok (a : Int) (l : List Int) (b : Int) (m : List Int) (hl : l.length ≤ 1048576) (hm : m.length ≤ 1048576) {k : Nat} (hk : 4000000 ≤ k) : spec_Join.f k a l b m = some (if a = b then a else 0, joined l m) := by
  obtain ⟨k, rfl⟩ : ∃ m, k = m + 1 := ⟨k - 1, by omega⟩
  have h := fun acc => spec_l0 acc a b l m hl hm (min l.length m.length) k 0 (by omega) (by omega) (by omega)
  unfold spec_Join.f
  by_cases e : a = b
  · rw [if_pos e, if_pos e]
    exact h a
  · rw [if_neg e, if_neg e]
    exact h 0
def joinS (a b : State) : State := ⟨if a.acc = b.acc then a.acc else 0, joined a.regs b.regs⟩
theorem specJoin (a b : State) (ca cb : List Value) (w : World) (ha : kStateI.K w a ca) (hb : kStateI.K w b cb) (hl : a.regs.length ≤ 1048576) (hm : b.regs.length ≤ 1048576) :
    Calls Try.prog 37 #[.agg ⟨ca⟩, .agg ⟨cb⟩] w fun e w' => ∃ ds, e = .returned (.agg ⟨ds⟩) ∧ kStateI.M w' w.heap.size (fun _ => True) (joinS a b) ds ∧ Below w.heap.size w w' := by
  obtain ⟨A, c, rfl, h1, h2⟩ := kStateI_open ha
  obtain ⟨B, d, rfl, h3, h4⟩ := kStateI_open hb
  refine (spec_Join.calls 4000000 a.acc A c a.regs b.acc B d b.regs _ _ w h2 h1 h4 h3 (spec_ok _ _ _ _ hl hm (Nat.le_refl _))).mono ?_
  rintro e w' ⟨v, rfl, hr, hB⟩
  exact ⟨_, rfl, kStateI_mkM _ _ _ (joinS a b) hr, hB⟩
theorem implJoin (a b : State) (ca cb : List Value) (w : World) (ha : kStateI.K w a ca) (hb : kStateI.K w b cb) (hl : a.regs.length ≤ 1048576) (hm : b.regs.length ≤ 1048576) :
    Calls Try.prog 22 #[.agg ⟨ca⟩, .agg ⟨cb⟩] w fun e w' => ∃ ds, e = .returned (.agg ⟨ds⟩) ∧ kStateI.M w' w.heap.size (fun _ => True) (joinS a b) ds ∧ Below w.heap.size w w' := by
  obtain ⟨A, c, rfl, h1, h2⟩ := kStateI_open ha
  obtain ⟨B, d, rfl, h3, h4⟩ := kStateI_open hb
  refine (impl_Join.calls 4000000 a.acc A c a.regs b.acc B d b.regs _ _ w h2 h1 h4 h3 (join_ok _ _ _ _ hl hm (by omega))).mono ?_
  rintro e w' ⟨v, rfl, hr, hB⟩
  exact ⟨_, rfl, kStateI_mkM _ _ _ (joinS a b) hr, hB⟩
end Go.Proofs.Ytdgjbpefbkgnpaa.PureJoin
