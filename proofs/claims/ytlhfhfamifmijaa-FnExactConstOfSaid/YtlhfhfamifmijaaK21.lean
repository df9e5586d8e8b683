/- Part 21 of the proof: general lemmas, contracts of functions, walks. No condition of its own. -/
import Derived.Test.YtlhfhfamifmijaaK20
import Derived.Test.YtlhfhfamifmijaaK9
section
namespace Go.Proofs.Ytlhfhfamifmijaa.LeafN
open Go.RowKit Go.Proofs.YtlhfhfamifmijaaW.PrintWords Go.Proofs.YtlhfhfamifmijaaW.PrintMore Go.Proofs.Ytlhfhfamifmijaa.Law Go.Proofs.Ytlhfhfamifmijaa.Num Go.Proofs.Ytlhfhfamifmijaa
set_option linter.unusedVariables false
set_option linter.unusedSimpArgs false
set_option autoImplicit false
def wantsAll (n : Node) : List Want := wantsL n ++ n.list.map (fun x => ⟨x, if n.kind = 29 then 2 else 0⟩)
def wantB (t : List Node) (i : Int) (v : Want) : Bool := inB v.x 0 (i - 1) && fnSem v.is_ (kindAt t v.x)
def letP (t : List Node) (i : Int) (n : Node) : Bool := n.b == 0 || (n.b == 1 && (inB n.a 0 (i - 1) && kindAt t n.a == 13))
/-- Is a node right, as the program has it? -/
noncomputable def nodeI (t : List Node) (i : Int) (n : Node) : Bool :=
  if wantsO n = true then if namesB n = true then if inB n.at_ 0 600 = true then if n.kind = 13 ∧ 4 < n.names.length then false else if n.kind = 12 ∧ 6 < n.list.length then false
  else if n.kind = 20 ∧ letP t i n = false then false else (wantsAll n).all (wantB t i) else false else false else false
theorem numOk0 : numOk 0 = true := by decide
theorem same_1 (t : List Node) (i : Int) (n : Node) (hk : n.kind = 1) : nodeI t i n = nodeB t i n := by
  have hu : useOf 1 = ⟨0, 0, 0, 0, 0, true⟩ := rfl
  have hkb : kindB n = inB n.at_ 0 600 := by unfold kindB; rw [hk]; rfl
  unfold nodeI nodeB
  rw [hk, hu, hkb]
  by_cases hz : n.num = 0 <;> by_cases hl : n.list = [] <;> by_cases hat : inB n.at_ 0 600 = true <;> simp [wantsO, namesB, wantsAll, wantsL, wantB, letP, letB, partsB, partB, shapeB, itemB, labelB, fnSem, hk, hz, hl, hat, numOk0]
  all_goals grind
theorem same_2 (t : List Node) (i : Int) (n : Node) (hk : n.kind = 2) : nodeI t i n = nodeB t i n := by
  have hu : useOf 2 = ⟨0, 0, 0, 0, 1, false⟩ := rfl
  have hkb : kindB n = inB n.at_ 0 600 := by unfold kindB; rw [hk]; rfl
  unfold nodeI nodeB
  rw [hk, hu, hkb]
  by_cases hn : n.names.length = 1
  · obtain ⟨s, hs⟩ := List.length_eq_one_iff.1 hn
    by_cases hz : n.num = 0 <;> by_cases hl : n.list = [] <;> by_cases hat : inB n.at_ 0 600 = true <;> simp [wantsO, namesB, wantsAll, wantsL, wantB, letP, letB, partsB, partB, shapeB, itemB, labelB, fnSem, hk, hz, hl, hat, numOk0, hs, el]
    all_goals grind
  · have hn2 : ¬ (n.names.length : Int) = 1 := by omega
    by_cases hz : n.num = 0 <;> by_cases hl : n.list = [] <;> by_cases hat : inB n.at_ 0 600 = true <;> simp [wantsO, namesB, shapeB, hk, hz, hl, hat, hn, hn2]
    all_goals grind
theorem same_3 (t : List Node) (i : Int) (n : Node) (hk : n.kind = 3) : nodeI t i n = nodeB t i n := by
  have hu : useOf 3 = ⟨0, 0, 0, 0, 0, false⟩ := rfl
  have hkb : kindB n = inB n.at_ 0 600 := by unfold kindB; rw [hk]; rfl
  unfold nodeI nodeB
  rw [hk, hu, hkb]
  by_cases hz : n.num = 0 <;> by_cases hl : n.list = [] <;> by_cases hat : inB n.at_ 0 600 = true <;> simp [wantsO, namesB, wantsAll, wantsL, wantB, letP, letB, partsB, partB, shapeB, itemB, labelB, fnSem, hk, hz, hl, hat, numOk0]
  all_goals grind
theorem same_4 (t : List Node) (i : Int) (n : Node) (hk : n.kind = 4) : nodeI t i n = nodeB t i n := by
  have hu : useOf 4 = ⟨0, 0, 0, 0, 0, false⟩ := rfl
  have hkb : kindB n = inB n.at_ 0 600 := by unfold kindB; rw [hk]; rfl
  unfold nodeI nodeB
  rw [hk, hu, hkb]
  by_cases hz : n.num = 0 <;> by_cases hl : n.list = [] <;> by_cases hat : inB n.at_ 0 600 = true <;> simp [wantsO, namesB, wantsAll, wantsL, wantB, letP, letB, partsB, partB, shapeB, itemB, labelB, fnSem, hk, hz, hl, hat, numOk0]
  all_goals grind
theorem same_5 (t : List Node) (i : Int) (n : Node) (hk : n.kind = 5) : nodeI t i n = nodeB t i n := by
  have hu : useOf 5 = ⟨0, 0, 0, 0, 0, false⟩ := rfl
  have hkb : kindB n = inB n.at_ 0 600 := by unfold kindB; rw [hk]; rfl
  unfold nodeI nodeB
  rw [hk, hu, hkb]
  by_cases hz : n.num = 0 <;> by_cases hl : n.list = [] <;> by_cases hat : inB n.at_ 0 600 = true <;> simp [wantsO, namesB, wantsAll, wantsL, wantB, letP, letB, partsB, partB, shapeB, itemB, labelB, fnSem, hk, hz, hl, hat, numOk0]
  all_goals grind
theorem same_6 (t : List Node) (i : Int) (n : Node) (hk : n.kind = 6) : nodeI t i n = nodeB t i n := by
  have hu : useOf 6 = ⟨0, 0, 0, 0, 1, false⟩ := rfl
  have hkb : kindB n = inB n.at_ 0 600 := by unfold kindB; rw [hk]; rfl
  unfold nodeI nodeB
  rw [hk, hu, hkb]
  by_cases hn : n.names.length = 1
  · obtain ⟨s, hs⟩ := List.length_eq_one_iff.1 hn
    by_cases hz : n.num = 0 <;> by_cases hl : n.list = [] <;> by_cases hat : inB n.at_ 0 600 = true <;> simp [wantsO, namesB, wantsAll, wantsL, wantB, letP, letB, partsB, partB, shapeB, itemB, labelB, fnSem, hk, hz, hl, hat, numOk0, hs, el]
    all_goals grind
  · have hn2 : ¬ (n.names.length : Int) = 1 := by omega
    by_cases hz : n.num = 0 <;> by_cases hl : n.list = [] <;> by_cases hat : inB n.at_ 0 600 = true <;> simp [wantsO, namesB, shapeB, hk, hz, hl, hat, hn, hn2]
    all_goals grind
theorem same_7 (t : List Node) (i : Int) (n : Node) (hk : n.kind = 7) : nodeI t i n = nodeB t i n := by
  have hu : useOf 7 = ⟨1, 0, 0, 0, 0, false⟩ := rfl
  have hkb : kindB n = inB n.at_ 0 600 := by unfold kindB; rw [hk]; rfl
  unfold nodeI nodeB
  rw [hk, hu, hkb]
  by_cases hz : n.num = 0 <;> by_cases hl : n.list = [] <;> by_cases hat : inB n.at_ 0 600 = true <;> simp [wantsO, namesB, wantsAll, wantsL, wantB, letP, letB, partsB, partB, shapeB, itemB, labelB, fnSem, hk, hz, hl, hat, numOk0]
  all_goals grind
theorem same_8 (t : List Node) (i : Int) (n : Node) (hk : n.kind = 8) : nodeI t i n = nodeB t i n := by
  have hu : useOf 8 = ⟨1, 0, 0, 0, 0, false⟩ := rfl
  have hkb : kindB n = inB n.at_ 0 600 := by unfold kindB; rw [hk]; rfl
  unfold nodeI nodeB
  rw [hk, hu, hkb]
  by_cases hz : n.num = 0 <;> by_cases hl : n.list = [] <;> by_cases hat : inB n.at_ 0 600 = true <;> simp [wantsO, namesB, wantsAll, wantsL, wantB, letP, letB, partsB, partB, shapeB, itemB, labelB, fnSem, hk, hz, hl, hat, numOk0]
  all_goals grind
theorem same_9 (t : List Node) (i : Int) (n : Node) (hk : n.kind = 9) : nodeI t i n = nodeB t i n := by
  have hu : useOf 9 = ⟨1, 1, 3, 0, 0, false⟩ := rfl
  have hkb : kindB n = inB n.at_ 0 600 := by unfold kindB; rw [hk]; rfl
  unfold nodeI nodeB
  rw [hk, hu, hkb]
  by_cases hz : n.num = 0 <;> by_cases hl : n.list = [] <;> by_cases hat : inB n.at_ 0 600 = true <;> simp [wantsO, namesB, wantsAll, wantsL, wantB, letP, letB, partsB, partB, shapeB, itemB, labelB, fnSem, hk, hz, hl, hat, numOk0]
  all_goals grind
theorem same_10 (t : List Node) (i : Int) (n : Node) (hk : n.kind = 10) : nodeI t i n = nodeB t i n := by
  have hu : useOf 10 = ⟨1, 1, 0, 0, 0, false⟩ := rfl
  have hkb : kindB n = inB n.at_ 0 600 := by unfold kindB; rw [hk]; rfl
  unfold nodeI nodeB
  rw [hk, hu, hkb]
  by_cases hz : n.num = 0 <;> by_cases hl : n.list = [] <;> by_cases hat : inB n.at_ 0 600 = true <;> simp [wantsO, namesB, wantsAll, wantsL, wantB, letP, letB, partsB, partB, shapeB, itemB, labelB, fnSem, hk, hz, hl, hat, numOk0]
  all_goals grind
theorem same_11 (t : List Node) (i : Int) (n : Node) (hk : n.kind = 11) : nodeI t i n = nodeB t i n := by
  have hu : useOf 11 = ⟨1, 1, 0, 0, 0, false⟩ := rfl
  have hkb : kindB n = inB n.at_ 0 600 := by unfold kindB; rw [hk]; rfl
  unfold nodeI nodeB
  rw [hk, hu, hkb]
  by_cases hz : n.num = 0 <;> by_cases hl : n.list = [] <;> by_cases hat : inB n.at_ 0 600 = true <;> simp [wantsO, namesB, wantsAll, wantsL, wantB, letP, letB, partsB, partB, shapeB, itemB, labelB, fnSem, hk, hz, hl, hat, numOk0]
  all_goals grind
theorem same_12 (t : List Node) (i : Int) (n : Node) (hk : n.kind = 12) : nodeI t i n = nodeB t i n := by
  have hu : useOf 12 = ⟨1, 0, 0, 1, 0, false⟩ := rfl
  have hkb : kindB n = inB n.at_ 0 600 := by unfold kindB; rw [hk]; rfl
  unfold nodeI nodeB
  rw [hk, hu, hkb]
  have hL : (n.list.map (fun x => (⟨x, 0⟩ : Want))).all (wantB t i) = n.list.all (itemB t i 1) := by
    rw [List.all_map]
    congr 1
    funext x
    simp [itemB, wantB, fnSem]
  have hA : (wantsAll n).all (wantB t i) = ((wantsL n).all (wantB t i) && n.list.all (itemB t i 1)) := by
    unfold wantsAll; rw [List.all_append, hk, ← hL]; rfl
  rw [hA]
  generalize n.list.all (itemB t i 1) = L
  by_cases hz : n.num = 0 <;> by_cases hat : inB n.at_ 0 600 = true <;> simp [wantsO, namesB, wantsL, wantB, letP, letB, partsB, partB, shapeB, labelB, fnSem, hk, hz, hat, numOk0]
  all_goals grind
theorem same_13 (t : List Node) (i : Int) (n : Node) (hk : n.kind = 13) : nodeI t i n = nodeB t i n := by
  have hu : useOf 13 = ⟨2, 0, 0, 0, -1, false⟩ := rfl
  have hkb : kindB n = inB n.at_ 0 600 := by unfold kindB; rw [hk]; rfl
  unfold nodeI nodeB
  rw [hk, hu, hkb]
  by_cases hz : n.num = 0 <;> by_cases hl : n.list = [] <;> by_cases hat : inB n.at_ 0 600 = true <;> simp [wantsO, namesB, wantsAll, wantsL, wantB, letP, letB, partsB, partB, shapeB, itemB, labelB, fnSem, hk, hz, hl, hat, numOk0]
  all_goals grind
theorem same_20 (t : List Node) (i : Int) (n : Node) (hk : n.kind = 20) : nodeI t i n = nodeB t i n := by
  have hu : useOf 20 = ⟨1, 3, 0, 0, 1, false⟩ := rfl
  have hkb : kindB n = inB n.at_ 0 600 := by unfold kindB; rw [hk]; rfl
  unfold nodeI nodeB
  rw [hk, hu, hkb]
  have hib : inB n.b 0 1 = (decide (n.b = 0) || decide (n.b = 1)) := by unfold inB; rw [Bool.eq_iff_iff]; simp; omega
  by_cases hn : n.names.length = 1
  · obtain ⟨s, hs⟩ := List.length_eq_one_iff.1 hn
    by_cases hz : n.num = 0 <;> by_cases hl : n.list = [] <;> by_cases hat : inB n.at_ 0 600 = true <;> simp [wantsO, namesB, wantsAll, wantsL, wantB, letP, letB, partsB, partB, shapeB, itemB, labelB, fnSem, hk, hz, hl, hat, numOk0, hs, el, hib]
    all_goals grind
  · have hn2 : ¬ (n.names.length : Int) = 1 := by omega
    by_cases hz : n.num = 0 <;> by_cases hl : n.list = [] <;> by_cases hat : inB n.at_ 0 600 = true <;> simp [wantsO, namesB, shapeB, hk, hz, hl, hat, hn, hn2]
    all_goals grind
theorem same_21 (t : List Node) (i : Int) (n : Node) (hk : n.kind = 21) : nodeI t i n = nodeB t i n := by
  have hu : useOf 21 = ⟨1, 0, 0, 0, 1, false⟩ := rfl
  have hkb : kindB n = inB n.at_ 0 600 := by unfold kindB; rw [hk]; rfl
  unfold nodeI nodeB
  rw [hk, hu, hkb]
  by_cases hn : n.names.length = 1
  · obtain ⟨s, hs⟩ := List.length_eq_one_iff.1 hn
    by_cases hz : n.num = 0 <;> by_cases hl : n.list = [] <;> by_cases hat : inB n.at_ 0 600 = true <;> simp [wantsO, namesB, wantsAll, wantsL, wantB, letP, letB, partsB, partB, shapeB, itemB, labelB, fnSem, hk, hz, hl, hat, numOk0, hs, el]
    all_goals grind
  · have hn2 : ¬ (n.names.length : Int) = 1 := by omega
    by_cases hz : n.num = 0 <;> by_cases hl : n.list = [] <;> by_cases hat : inB n.at_ 0 600 = true <;> simp [wantsO, namesB, shapeB, hk, hz, hl, hat, hn, hn2]
    all_goals grind
theorem same_22 (t : List Node) (i : Int) (n : Node) (hk : n.kind = 22) : nodeI t i n = nodeB t i n := by
  have hu : useOf 22 = ⟨1, 0, 0, 0, 0, false⟩ := rfl
  have hkb : kindB n = inB n.at_ 0 600 := by unfold kindB; rw [hk]; rfl
  unfold nodeI nodeB
  rw [hk, hu, hkb]
  by_cases hz : n.num = 0 <;> by_cases hl : n.list = [] <;> by_cases hat : inB n.at_ 0 600 = true <;> simp [wantsO, namesB, wantsAll, wantsL, wantB, letP, letB, partsB, partB, shapeB, itemB, labelB, fnSem, hk, hz, hl, hat, numOk0]
  all_goals grind
theorem same_23 (t : List Node) (i : Int) (n : Node) (hk : n.kind = 23) : nodeI t i n = nodeB t i n := by
  have hu : useOf 23 = ⟨1, 2, 4, 0, 0, false⟩ := rfl
  have hkb : kindB n = inB n.at_ 0 600 := by unfold kindB; rw [hk]; rfl
  unfold nodeI nodeB
  rw [hk, hu, hkb]
  by_cases hc : n.c = -1 <;> by_cases hz : n.num = 0 <;> by_cases hl : n.list = [] <;> by_cases hat : inB n.at_ 0 600 = true <;> simp [wantsO, namesB, wantsAll, wantsL, wantB, letP, letB, partsB, partB, shapeB, itemB, labelB, fnSem, hk, hz, hl, hat, numOk0, hc]
  all_goals grind
theorem same_24 (t : List Node) (i : Int) (n : Node) (hk : n.kind = 24) : nodeI t i n = nodeB t i n := by
  have hu : useOf 24 = ⟨1, 2, 0, 0, 0, false⟩ := rfl
  have hkb : kindB n = inB n.at_ 0 600 := by unfold kindB; rw [hk]; rfl
  unfold nodeI nodeB
  rw [hk, hu, hkb]
  by_cases hz : n.num = 0 <;> by_cases hl : n.list = [] <;> by_cases hat : inB n.at_ 0 600 = true <;> simp [wantsO, namesB, wantsAll, wantsL, wantB, letP, letB, partsB, partB, shapeB, itemB, labelB, fnSem, hk, hz, hl, hat, numOk0]
  all_goals grind
theorem same_25 (t : List Node) (i : Int) (n : Node) (hk : n.kind = 25) : nodeI t i n = nodeB t i n := by
  have hu : useOf 25 = ⟨1, 0, 0, 0, 0, false⟩ := rfl
  have hkb : kindB n = inB n.at_ 0 600 := by unfold kindB; rw [hk]; rfl
  unfold nodeI nodeB
  rw [hk, hu, hkb]
  by_cases hz : n.num = 0 <;> by_cases hl : n.list = [] <;> by_cases hat : inB n.at_ 0 600 = true <;> simp [wantsO, namesB, wantsAll, wantsL, wantB, letP, letB, partsB, partB, shapeB, itemB, labelB, fnSem, hk, hz, hl, hat, numOk0]
  all_goals grind
theorem same_26 (t : List Node) (i : Int) (n : Node) (hk : n.kind = 26) : nodeI t i n = nodeB t i n := by
  have hu : useOf 26 = ⟨1, 0, 0, 0, 0, false⟩ := rfl
  have hkb : kindB n = inB n.at_ 0 600 := by unfold kindB; rw [hk]; rfl
  unfold nodeI nodeB
  rw [hk, hu, hkb]
  by_cases hz : n.num = 0 <;> by_cases hl : n.list = [] <;> by_cases hat : inB n.at_ 0 600 = true <;> simp [wantsO, namesB, wantsAll, wantsL, wantB, letP, letB, partsB, partB, shapeB, itemB, labelB, fnSem, hk, hz, hl, hat, numOk0]
  all_goals grind
theorem same_27 (t : List Node) (i : Int) (n : Node) (hk : n.kind = 27) : nodeI t i n = nodeB t i n := by
  have hu : useOf 27 = ⟨2, 2, 0, 0, 1, false⟩ := rfl
  have hkb : kindB n = inB n.at_ 0 600 := by unfold kindB; rw [hk]; rfl
  unfold nodeI nodeB
  rw [hk, hu, hkb]
  by_cases hn : n.names.length = 1
  · obtain ⟨s, hs⟩ := List.length_eq_one_iff.1 hn
    by_cases hz : n.num = 0 <;> by_cases hl : n.list = [] <;> by_cases hat : inB n.at_ 0 600 = true <;> simp [wantsO, namesB, wantsAll, wantsL, wantB, letP, letB, partsB, partB, shapeB, itemB, labelB, fnSem, hk, hz, hl, hat, numOk0, hs, el]
    all_goals grind
  · have hn2 : ¬ (n.names.length : Int) = 1 := by omega
    by_cases hz : n.num = 0 <;> by_cases hl : n.list = [] <;> by_cases hat : inB n.at_ 0 600 = true <;> simp [wantsO, namesB, shapeB, hk, hz, hl, hat, hn, hn2]
    all_goals grind
theorem same_28 (t : List Node) (i : Int) (n : Node) (hk : n.kind = 28) : nodeI t i n = nodeB t i n := by
  have hu : useOf 28 = ⟨1, 0, 0, 0, 0, false⟩ := rfl
  have hkb : kindB n = inB n.at_ 0 600 := by unfold kindB; rw [hk]; rfl
  unfold nodeI nodeB
  rw [hk, hu, hkb]
  by_cases hz : n.num = 0 <;> by_cases hl : n.list = [] <;> by_cases hat : inB n.at_ 0 600 = true <;> simp [wantsO, namesB, wantsAll, wantsL, wantB, letP, letB, partsB, partB, shapeB, itemB, labelB, fnSem, hk, hz, hl, hat, numOk0]
  all_goals grind
theorem same_29 (t : List Node) (i : Int) (n : Node) (hk : n.kind = 29) : nodeI t i n = nodeB t i n := by
  have hu : useOf 29 = ⟨0, 0, 0, 2, 0, false⟩ := rfl
  have hkb : kindB n = inB n.at_ 0 600 := by unfold kindB; rw [hk]; rfl
  unfold nodeI nodeB
  rw [hk, hu, hkb]
  have hL : (n.list.map (fun x => (⟨x, 2⟩ : Want))).all (wantB t i) = n.list.all (itemB t i 2) := by
    rw [List.all_map]
    congr 1
    funext x
    simp [itemB, wantB, fnSem]
  have hA : (wantsAll n).all (wantB t i) = ((wantsL n).all (wantB t i) && n.list.all (itemB t i 2)) := by
    unfold wantsAll; rw [List.all_append, hk, ← hL]; rfl
  rw [hA]
  generalize n.list.all (itemB t i 2) = L
  by_cases hz : n.num = 0 <;> by_cases hat : inB n.at_ 0 600 = true <;> simp [wantsO, namesB, wantsL, wantB, letP, letB, partsB, partB, shapeB, labelB, fnSem, hk, hz, hat, numOk0]
  all_goals grind
theorem same_else (t : List Node) (i : Int) (n : Node) (h : ¬ ((1 ≤ n.kind ∧ n.kind ≤ 13) ∨ (20 ≤ n.kind ∧ n.kind ≤ 29))) : nodeI t i n = nodeB t i n := by
  have h1 : wantsO n = false := by
    unfold wantsO
    rw [if_neg (by omega), if_neg (by omega), if_neg (by omega), if_neg (by omega), if_neg (by omega)]
    simp
    omega
  have h2 : kindB n = false := by
    have e1 : exprB n.kind = false := decide_eq_false (by omega)
    have e2 : stmtB n.kind = false := decide_eq_false (by omega)
    have e3 : (n.kind == 29) = false := by simp; omega
    unfold kindB
    rw [e1, e2, e3]
    rfl
  unfold nodeI nodeB
  rw [h1, h2]
  rfl
theorem same_node (t : List Node) (i : Int) (n : Node) : nodeI t i n = nodeB t i n := by
  by_cases h : (1 ≤ n.kind ∧ n.kind ≤ 13) ∨ (20 ≤ n.kind ∧ n.kind ≤ 29)
  rotate_left
  · exact same_else t i n h
  have hks : n.kind = 1 ∨ n.kind = 2 ∨ n.kind = 3 ∨ n.kind = 4 ∨ n.kind = 5 ∨ n.kind = 6 ∨ n.kind = 7 ∨ n.kind = 8 ∨ n.kind = 9 ∨ n.kind = 10 ∨ n.kind = 11 ∨ n.kind = 12 ∨ n.kind = 13 ∨ n.kind = 20 ∨ n.kind = 21 ∨ n.kind = 22 ∨ n.kind = 23 ∨ n.kind = 24 ∨ n.kind = 25 ∨ n.kind = 26 ∨ n.kind = 27 ∨ n.kind = 28 ∨ n.kind = 29 := by omega
  rcases hks with hk | hk | hk | hk | hk | hk | hk | hk | hk | hk | hk | hk | hk | hk | hk | hk | hk | hk | hk | hk | hk | hk | hk
  · exact same_1 t i n hk
  · exact same_2 t i n hk
  · exact same_3 t i n hk
  · exact same_4 t i n hk
  · exact same_5 t i n hk
  · exact same_6 t i n hk
  · exact same_7 t i n hk
  · exact same_8 t i n hk
  · exact same_9 t i n hk
  · exact same_10 t i n hk
  · exact same_11 t i n hk
  · exact same_12 t i n hk
  · exact same_13 t i n hk
  · exact same_20 t i n hk
  · exact same_21 t i n hk
  · exact same_22 t i n hk
  · exact same_23 t i n hk
  · exact same_24 t i n hk
  · exact same_25 t i n hk
  · exact same_26 t i n hk
  · exact same_27 t i n hk
  · exact same_28 t i n hk
  · exact same_29 t i n hk
theorem kids_wants (n : Node) : kids n = (wantsAll n).map (fun v => v.x) := by
  have hl : (n.list.map (fun x => (⟨x, if n.kind = 29 then 2 else 0⟩ : Want))).map (fun v => v.x) = n.list := by rw [List.map_map]; exact List.map_id' n.list
  unfold wantsAll kids
  rw [List.map_append, hl]
  by_cases h : (1 ≤ n.kind ∧ n.kind ≤ 13) ∨ (20 ≤ n.kind ∧ n.kind ≤ 29)
  rotate_left
  · have e : useT n.kind = (0, 0, 0, 0, 0, false) := by
      unfold useT
      rw [if_neg (by omega), if_neg (by omega), if_neg (by omega), if_neg (by omega), if_neg (by omega), if_neg (by omega), if_neg (by omega), if_neg (by omega), if_neg (by omega), if_neg (by omega), if_neg (by omega), if_neg (by omega), if_neg (by omega)]
    have e2 : wantsL n = [] := by
      unfold wantsL
      rw [if_neg (by omega), if_neg (by omega), if_neg (by omega), if_neg (by omega), if_neg (by omega), if_neg (by omega)]
    unfold useOf
    rw [e, e2]
    rfl
  have hks : n.kind = 1 ∨ n.kind = 2 ∨ n.kind = 3 ∨ n.kind = 4 ∨ n.kind = 5 ∨ n.kind = 6 ∨ n.kind = 7 ∨ n.kind = 8 ∨ n.kind = 9 ∨ n.kind = 10 ∨ n.kind = 11 ∨ n.kind = 12 ∨ n.kind = 13 ∨ n.kind = 20 ∨ n.kind = 21 ∨ n.kind = 22 ∨ n.kind = 23 ∨ n.kind = 24 ∨ n.kind = 25 ∨ n.kind = 26 ∨ n.kind = 27 ∨ n.kind = 28 ∨ n.kind = 29 := by omega
  rcases hks with hk | hk | hk | hk | hk | hk | hk | hk | hk | hk | hk | hk | hk | hk | hk | hk | hk | hk | hk | hk | hk | hk | hk
  · have hu : useOf 1 = ⟨0, 0, 0, 0, 0, true⟩ := rfl
    simp [wantsL, hk, hu, pk]
  · have hu : useOf 2 = ⟨0, 0, 0, 0, 1, false⟩ := rfl
    simp [wantsL, hk, hu, pk]
  · have hu : useOf 3 = ⟨0, 0, 0, 0, 0, false⟩ := rfl
    simp [wantsL, hk, hu, pk]
  · have hu : useOf 4 = ⟨0, 0, 0, 0, 0, false⟩ := rfl
    simp [wantsL, hk, hu, pk]
  · have hu : useOf 5 = ⟨0, 0, 0, 0, 0, false⟩ := rfl
    simp [wantsL, hk, hu, pk]
  · have hu : useOf 6 = ⟨0, 0, 0, 0, 1, false⟩ := rfl
    simp [wantsL, hk, hu, pk]
  · have hu : useOf 7 = ⟨1, 0, 0, 0, 0, false⟩ := rfl
    simp [wantsL, hk, hu, pk]
  · have hu : useOf 8 = ⟨1, 0, 0, 0, 0, false⟩ := rfl
    simp [wantsL, hk, hu, pk]
  · have hu : useOf 9 = ⟨1, 1, 3, 0, 0, false⟩ := rfl
    simp [wantsL, hk, hu, pk]
  · have hu : useOf 10 = ⟨1, 1, 0, 0, 0, false⟩ := rfl
    simp [wantsL, hk, hu, pk]
  · have hu : useOf 11 = ⟨1, 1, 0, 0, 0, false⟩ := rfl
    simp [wantsL, hk, hu, pk]
  · have hu : useOf 12 = ⟨1, 0, 0, 1, 0, false⟩ := rfl
    simp [wantsL, hk, hu, pk]
  · have hu : useOf 13 = ⟨2, 0, 0, 0, -1, false⟩ := rfl
    simp [wantsL, hk, hu, pk]
  · have hu : useOf 20 = ⟨1, 3, 0, 0, 1, false⟩ := rfl
    simp [wantsL, hk, hu, pk]
  · have hu : useOf 21 = ⟨1, 0, 0, 0, 1, false⟩ := rfl
    simp [wantsL, hk, hu, pk]
  · have hu : useOf 22 = ⟨1, 0, 0, 0, 0, false⟩ := rfl
    simp [wantsL, hk, hu, pk]
  · have hu : useOf 23 = ⟨1, 2, 4, 0, 0, false⟩ := rfl
    by_cases hc : n.c = -1 <;> simp [wantsL, hk, hu, pk, hc]
  · have hu : useOf 24 = ⟨1, 2, 0, 0, 0, false⟩ := rfl
    simp [wantsL, hk, hu, pk]
  · have hu : useOf 25 = ⟨1, 0, 0, 0, 0, false⟩ := rfl
    simp [wantsL, hk, hu, pk]
  · have hu : useOf 26 = ⟨1, 0, 0, 0, 0, false⟩ := rfl
    simp [wantsL, hk, hu, pk]
  · have hu : useOf 27 = ⟨2, 2, 0, 0, 1, false⟩ := rfl
    simp [wantsL, hk, hu, pk]
  · have hu : useOf 28 = ⟨1, 0, 0, 0, 0, false⟩ := rfl
    simp [wantsL, hk, hu, pk]
  · have hu : useOf 29 = ⟨0, 0, 0, 2, 0, false⟩ := rfl
    simp [wantsL, hk, hu, pk]
end Go.Proofs.Ytlhfhfamifmijaa.LeafN
end
section
namespace Go.Proofs.Ytlhfhfamifmijaa.Law
open Go.RowKit Go.Proofs.YtlhfhfamifmijaaW.PrintWords Go.Proofs.YtlhfhfamifmijaaW.PrintMore
set_option linter.unusedVariables false
theorem Mem.grow {α : Type} {d : Kd α} {e : Nat} {w W w1 : World} {H : List Hold} {lo hi : Nat} {l l1 : List α} {v v1 : Value} (h : Mem w W (Hold.val (Kd.slice e d) lo hi l [v] :: H)) (hH : ∀ x ∈ H, x.hi ≤ lo) (hb : Below lo W w1) (hr : d.R e w1 lo (fun k => lo ≤ k) v1 l1) : Mem w w1 (Hold.val (Kd.slice e d) lo w1.heap.size l1 [v1] :: H) := by
  have hf := (h.fits _ (.head _))
  have hlo : w.heap.size ≤ lo := hf.1
  refine ⟨h.below.trans ⟨hb.os, hb.tape, hb.output, hb.size, fun i hi => hb.block i (Nat.lt_of_lt_of_le hi hlo)⟩, fun x hx => ?_, fun x hx => ?_, ?_⟩
  · rcases List.mem_cons.1 hx with rfl | hx
    · exact ⟨v1, rfl, Kd.R_mono (Kd.R_bound hr) (fun k hk => ⟨hk.1, hk.2.2.1⟩)⟩
    · exact x.mv (fun k _ h2 _ => hb.block k (Nat.lt_of_lt_of_le h2 (hH x hx))) (h.says x (.tail _ hx))
  · rcases List.mem_cons.1 hx with rfl | hx
    · exact ⟨hlo, Nat.le_refl _⟩
    · have := h.fits x (.tail _ hx)
      exact ⟨this.1, Nat.le_trans this.2 hb.size⟩
  · exact List.pairwise_cons.2 ⟨fun x hx => .inl (hH x hx), (List.pairwise_cons.1 h.apart).2⟩
end Go.Proofs.Ytlhfhfamifmijaa.Law
end
