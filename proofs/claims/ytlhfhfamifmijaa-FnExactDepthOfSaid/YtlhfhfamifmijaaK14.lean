/- Part 14 of the proof: general lemmas, contracts of functions, walks. No condition of its own. -/
import Derived.WalkKit
import Derived.KernelRfl
import Derived.Deep.LoopGhost
import Derived.Deep.QuietTactic
import Derived.BigQuiet
import Derived.RowKit3
import Derived.Deep.RegionWith
import Derived.Deep.RegionHeld3
import Derived.WalkLawsBesides
import Derived.Test.YtlhfhfamifmijaaK13
import Derived.Test.YtlhfhfamifmijaaK9
section
namespace Go.Proofs.Ytlhfhfamifmijaa.LeafN
open Go.RowKit Go.Proofs.Ytlhfhfamifmijaa.Num Go.Proofs.YtlhfhfamifmijaaW.PrintWords Go.Proofs.YtlhfhfamifmijaaW.PrintMore Go.Proofs.Ytlhfhfamifmijaa.Law Go.Proofs.Ytlhfhfamifmijaa
set_option linter.unusedVariables false
set_option linter.unusedSimpArgs false
set_option autoImplicit false
/-- The kind of a tree's node. -/
def kindAt (t : List Node) (x : Int) : Int := (el zNode t x.toNat).kind
/-- Is a part as its use wants it? -/
def partB (t : List Node) (i : Int) (x use : Int) : Bool :=
  if use = 0 then x == 0 else if use = 3 then true else if use = 4 ∧ x = -1 then true
  else inB x 0 (i - 1) && (if use = 1 then exprB (kindAt t x) else (kindAt t x == 29 || (use == 4 && kindAt t x == 23)))
/-- The parts of a use. -/
def pk (use x : Int) : List Int := if use = 0 ∨ use = 3 ∨ (use = 4 ∧ x = -1) then [] else [x]
def bump (u : List Int) (x : Int) : List Int := u.set x.toNat (wrap64 (rd u x + 1))
def bumps (u : List Int) (l : List Int) : List Int := l.foldl bump u
theorem bump_len (u : List Int) (x : Int) : (bump u x).length = u.length := by simp [bump]
theorem bumps_app (u l m : List Int) : bumps u (l ++ m) = bumps (bumps u l) m := List.foldl_append
def itemB (t : List Node) (i : Int) (use x : Int) : Bool := if inB x 0 (i - 1) = true then (if use = 1 then exprB (kindAt t x) else if use = 2 then stmtB (kindAt t x) else true) else false
def shapeB (n : Node) (u : Use) : Bool :=
  !((u.list == 0 && decide ((0 : Int) < (n.list.length : Int))) || ((decide (u.names ≥ 0) && ((n.names.length : Int) != u.names)) || (decide ((4 : Int) < (n.names.length : Int)) || ((!u.num && (n.num != 0)) || (decide ((6 : Int) < (n.list.length : Int)) && (u.list == 1))))))
def kindB (n : Node) : Bool := (exprB n.kind || (stmtB n.kind || n.kind == 29)) && inB n.at_ 0 600
def partsB (t : List Node) (i : Int) (n : Node) (u : Use) : Bool := partB t i n.a u.a && (partB t i n.b u.b && partB t i n.c u.c)
noncomputable def labelB (k : Int) (s : ByteArray) : Bool := if k = 2 then textOk s else nameOk s
def letB (t : List Node) (n : Node) : Bool := if n.kind = 20 then (n.b == 0 || (n.b == 1 && kindAt t n.a == 13)) else true
/-- Is a node right, at its place? -/
noncomputable def nodeB (t : List Node) (i : Int) (n : Node) : Bool :=
  if kindB n = true then if partsB t i n (useOf n.kind) = true then if shapeB n (useOf n.kind) = true then if n.list.all (itemB t i (useOf n.kind).list) = true then if n.names.all (labelB n.kind) = true then
  if numOk n.num = true then if n.kind = 9 ∧ inB n.c 1 11 = false then false else letB t n else false else false else false else false else false else false
def kids (n : Node) : List Int := pk (useOf n.kind).a n.a ++ (pk (useOf n.kind).b n.b ++ (pk (useOf n.kind).c n.c ++ n.list))
def useIn (u : Int) : Prop := u = 0 ∨ u = 1 ∨ u = 2 ∨ u = 3 ∨ u = 4
theorem kind_cases (k : Int) : k = 1 ∨ k = 2 ∨ k = 6 ∨ k = 7 ∨ k = 8 ∨ k = 9 ∨ k = 10 ∨ k = 11 ∨ k = 12 ∨ k = 13 ∨ k = 20 ∨ k = 21 ∨ k = 22 ∨ k = 23 ∨ k = 24 ∨ k = 25 ∨ k = 26 ∨ k = 27 ∨ k = 28 ∨ k = 29 ∨ (k ≠ 1 ∧ k ≠ 2 ∧ k ≠ 6 ∧ k ≠ 7 ∧ k ≠ 8 ∧ k ≠ 9 ∧ k ≠ 10 ∧ k ≠ 11 ∧ k ≠ 12 ∧ k ≠ 13 ∧ k ≠ 20 ∧ k ≠ 21 ∧ k ≠ 22 ∧ k ≠ 23 ∧ k ≠ 24 ∧ k ≠ 25 ∧ k ≠ 26 ∧ k ≠ 27 ∧ k ≠ 28 ∧ k ≠ 29) := by omega
theorem use_in (k : Int) : useIn (useOf k).a ∧ useIn (useOf k).b ∧ useIn (useOf k).c := by
  rcases kind_cases k with rfl | rfl | rfl | rfl | rfl | rfl | rfl | rfl | rfl | rfl | rfl | rfl | rfl | rfl | rfl | rfl | rfl | rfl | rfl | rfl | h
  all_goals first | (unfold useIn; decide) | skip
  have e : useT k = (0, 0, 0, 0, 0, false) := by simp [useT, h]
  unfold useOf
  rw [e]
  exact ⟨.inl rfl, .inl rfl, .inl rfl⟩
theorem use_names (k : Int) : (useOf k).names ≤ 1 := by
  rcases kind_cases k with rfl | rfl | rfl | rfl | rfl | rfl | rfl | rfl | rfl | rfl | rfl | rfl | rfl | rfl | rfl | rfl | rfl | rfl | rfl | rfl | h
  all_goals first | decide | skip
  have e : useT k = (0, 0, 0, 0, 0, false) := by simp [useT, h]
  unfold useOf
  rw [e]
  decide
theorem use_shape (k : Int) : (((useOf k).list == 0) = true ∧ ((useOf k).list == 1) = false ∧ decide ((useOf k).names ≥ 0) = true ∧ (useOf k).num = true) ∨ (((useOf k).list == 0) = true ∧ ((useOf k).list == 1) = false ∧ decide ((useOf k).names ≥ 0) = true ∧ (useOf k).num = false) ∨ (((useOf k).list == 0) = false ∧ ((useOf k).list == 1) = true ∧ decide ((useOf k).names ≥ 0) = true ∧ (useOf k).num = false) ∨ (((useOf k).list == 0) = true ∧ ((useOf k).list == 1) = false ∧ decide ((useOf k).names ≥ 0) = false ∧ (useOf k).num = false) ∨ (((useOf k).list == 0) = false ∧ ((useOf k).list == 1) = false ∧ decide ((useOf k).names ≥ 0) = true ∧ (useOf k).num = false) := by
  rcases kind_cases k with rfl | rfl | rfl | rfl | rfl | rfl | rfl | rfl | rfl | rfl | rfl | rfl | rfl | rfl | rfl | rfl | rfl | rfl | rfl | rfl | h
  all_goals first | decide | skip
  have e : useT k = (0, 0, 0, 0, 0, false) := by simp [useT, h]
  unfold useOf
  rw [e]
  decide
end Go.Proofs.Ytlhfhfamifmijaa.LeafN
end
section
namespace Go.Proofs.Ytlhfhfamifmijaa.LeafN
open Go.RowKit Go.Proofs.YtlhfhfamifmijaaW.PrintWords Go.Proofs.YtlhfhfamifmijaaW.PrintMore Go.Proofs.Ytlhfhfamifmijaa.Law Go.Proofs.Ytlhfhfamifmijaa.Num Go.Proofs.Ytlhfhfamifmijaa
set_option linter.unusedVariables false
set_option linter.unusedSimpArgs false
set_option autoImplicit false
set_option maxHeartbeats 4000000 in
set_option maxRecDepth 100000 in
theorem cPart (A : Option Addr) (c : Nat) (t : List Node) (i : Nat) (x use : Int) (v1 : Value) (u : List Int) (w0 w : World) (lo : Nat) (ok : Nat → Prop) (hB : Below w0.heap.size w0 w) (hlo : w0.heap.size ≤ lo) (hr : (Kd.int .i64).R 3 w lo ok v1 u) (hT : kNodeI.C w0 A t.length t) (hi : i ≤ t.length) (hlen : t.length ≤ 1048576) (hu : u.length = t.length) (huse : useIn use) :
    Calls Try.prog 158 #[.slice A t.length c, .int .i64 i, .int .i64 x, .int .i64 use, v1] w fun e w' => e = .returned (.bool (partB t i x use)) ∧ ∃ u', (Kd.int .i64).R 3 w' lo ok v1 u' ∧ u'.length = t.length ∧ (partB t i x use = true → u' = bumps u (pk use x)) ∧ Below w0.heap.size w0 w' ∧ Kept w w' ok := by
  have HB := Aside0.mk hB
  have HO := Aside0.mk hr
  have HOK := Aside0.mk hr.1
  have HT := Aside0.mk hT
  have HU := Aside0.mk hu
  obtain ⟨UA, uc, rfl⟩ := Kd.R_slice hr
  clear hB hr hT hu
  rcases huse with rfl | rfl | rfl | rfl | rfl
  · skip
    go_enter Try.func158, Try.ntmps158
    go_wp2
    go_ret
    exact ⟨rfl, u, HO.out, HU.out, fun _ => rfl, HB.out, Kept.refl _ _⟩
  · skip
    by_cases hin : inB x 0 ((i : Int) - 1) = true
    rotate_left
    · have hin2 : inB x 0 ((i : Int) - 1) = false := by simpa using hin
      have HIN := Aside0.mk hin2; clear hin hin2
      have hp : partB t i x 1 = false := by simp [partB, HIN.out]
      have HP := Aside0.mk hp; clear hp
      go_enter Try.func158, Try.ntmps158
      go_wp2_with fail
      refine (cIn _ _ _ _).mono ?_; rintro e w1 ⟨rfl, ⟨⟨n1, rfl⟩⟩⟩; rw [HIN.out]
      go_wp2
      go_ret
      exact ⟨by rw [HP.out]; rfl, u, Kd.R_below HO.out (pw_below_drewN (Below.refl _ _) _), HU.out, fun h => by rw [HP.out] at h; exact absurd h (by decide), pw_below_drewN HB.out _, ⟨Nat.le_refl _, fun _ _ _ => rfl⟩⟩
    obtain ⟨j, rfl⟩ : ∃ j : Nat, x = j := ⟨x.toNat, by have := of_decide_eq_true hin; omega⟩
    have hj : j < i := by have := of_decide_eq_true hin; omega
    have hjt : j < t.length := by omega
    obtain ⟨pa, pA4, pc4, pA5, pc5, rfl, pK, px0, px1, px2, px3, px4, px5, px6, px7⟩ := NodeI_at HT.out j hjt
    clear pK px1 px2 px3 px4 px5 px6 px7
    have PX := Aside0.mk px0; clear px0
    have hju : (j : Int) < (u.length : Int) := by have := HU.out; omega
    obtain ⟨go, co, hv, gb, gl, cl, HG⟩ := Kd.R_form HO.out (by omega)
    have hg : ok go := HOK.out go (by rw [hv]; simp [Value.ownBlock])
    injection hv with hA _ hc
    subst hA; subst hc
    obtain ⟨hx0, hf0⟩ := Kd.R_celln 0 HO.out (j : Int) (by omega) hju
    rw [Int.toNat_natCast] at hx0 hf0
    have HP := Aside0.mk (Kd.R_putg HO.out (j : Int) (wrap64 (rd u (j : Int) + 1))).1
    have GB := Aside0.mk (Nat.le_trans hlo gb); have GK := Aside0.mk hg
    clear gb gl HG hg
    have HIN := Aside0.mk hin; clear hin
    have i1 : (0 : Int) ≤ (j : Int) := by omega
    have i2 : (j : Int) < (t.length : Int) := by omega
    by_cases hk' : exprB (el zNode t j).kind = true
    · have hk := hk'; clear hk'
      have hp : partB t i (j : Int) 1 = true := by simp [partB, kindAt, HIN.out, hk]
      have HPB := Aside0.mk hp; clear hp
      go_enter Try.func158, Try.ntmps158
      go_wp2_with fail
      refine (cIn _ _ _ _).mono ?_; rintro e w1 ⟨rfl, ⟨⟨n1, rfl⟩⟩⟩; rw [HIN.out]
      have hy0 := pw_cell_below (below_set (v := .int .i64 (wrap64 (rdOf 0 u (j : Int) + 1))) (j := j) (pw_below_drewN HB.out n1) GB.out) PX.out
      go_wp2_with fail
      refine (cExpr _ _).mono ?_; rintro e w2 ⟨rfl, ⟨⟨n2, rfl⟩⟩⟩; rw [hk]
      go_wp2
      go_ret
      have KK := Aside0.mk (Kept.setCell (p := ⟨go, j, none⟩) (Kept.refl w ok) (.inl GK.out) (.int .i64 (wrap64 (rdOf 0 u (j : Int) + 1))))
      exact ⟨by rw [HPB.out]; rfl, u.set (j : Int).toNat (wrap64 (rd u (j : Int) + 1)), Kd.R_move HP.out (fun k _ => rfl), by rw [List.length_set]; exact HU.out, fun _ => by simp [pk, bumps, bump], pw_below_drewN (below_set (pw_below_drewN HB.out n1) GB.out) n2, ⟨KK.out.1, KK.out.2⟩⟩
    skip
    have hk : exprB (el zNode t j).kind = false := by simpa using hk'
    clear hk'
    have hp : partB t i (j : Int) 1 = false := by simp [partB, kindAt, HIN.out, hk]
    have HPB := Aside0.mk hp; clear hp
    go_enter Try.func158, Try.ntmps158
    go_wp2_with fail
    refine (cIn _ _ _ _).mono ?_; rintro e w1 ⟨rfl, ⟨⟨n1, rfl⟩⟩⟩; rw [HIN.out]
    have hy0 := pw_cell_below (below_set (v := .int .i64 (wrap64 (rdOf 0 u (j : Int) + 1))) (j := j) (pw_below_drewN HB.out n1) GB.out) PX.out
    go_wp2_with fail
    refine (cExpr _ _).mono ?_; rintro e w2 ⟨rfl, ⟨⟨n2, rfl⟩⟩⟩; rw [hk]
    go_wp2
    go_ret
    have KK := Aside0.mk (Kept.setCell (p := ⟨go, j, none⟩) (Kept.refl w ok) (.inl GK.out) (.int .i64 (wrap64 (rdOf 0 u (j : Int) + 1))))
    exact ⟨by rw [HPB.out]; rfl, u.set (j : Int).toNat (wrap64 (rd u (j : Int) + 1)), Kd.R_move HP.out (fun k _ => rfl), by rw [List.length_set]; exact HU.out, fun h => by rw [HPB.out] at h; exact absurd h (by decide), pw_below_drewN (below_set (pw_below_drewN HB.out n1) GB.out) n2, ⟨KK.out.1, KK.out.2⟩⟩
  · skip
    by_cases hin : inB x 0 ((i : Int) - 1) = true
    rotate_left
    · have hin2 : inB x 0 ((i : Int) - 1) = false := by simpa using hin
      have HIN := Aside0.mk hin2; clear hin hin2
      have hp : partB t i x 2 = false := by simp [partB, HIN.out]
      have HP := Aside0.mk hp; clear hp
      go_enter Try.func158, Try.ntmps158
      go_wp2_with fail
      refine (cIn _ _ _ _).mono ?_; rintro e w1 ⟨rfl, ⟨⟨n1, rfl⟩⟩⟩; rw [HIN.out]
      go_wp2
      go_ret
      exact ⟨by rw [HP.out]; rfl, u, Kd.R_below HO.out (pw_below_drewN (Below.refl _ _) _), HU.out, fun h => by rw [HP.out] at h; exact absurd h (by decide), pw_below_drewN HB.out _, ⟨Nat.le_refl _, fun _ _ _ => rfl⟩⟩
    obtain ⟨j, rfl⟩ : ∃ j : Nat, x = j := ⟨x.toNat, by have := of_decide_eq_true hin; omega⟩
    have hj : j < i := by have := of_decide_eq_true hin; omega
    have hjt : j < t.length := by omega
    obtain ⟨pa, pA4, pc4, pA5, pc5, rfl, pK, px0, px1, px2, px3, px4, px5, px6, px7⟩ := NodeI_at HT.out j hjt
    clear pK px1 px2 px3 px4 px5 px6 px7
    have PX := Aside0.mk px0; clear px0
    have hju : (j : Int) < (u.length : Int) := by have := HU.out; omega
    obtain ⟨go, co, hv, gb, gl, cl, HG⟩ := Kd.R_form HO.out (by omega)
    have hg : ok go := HOK.out go (by rw [hv]; simp [Value.ownBlock])
    injection hv with hA _ hc
    subst hA; subst hc
    obtain ⟨hx0, hf0⟩ := Kd.R_celln 0 HO.out (j : Int) (by omega) hju
    rw [Int.toNat_natCast] at hx0 hf0
    have HP := Aside0.mk (Kd.R_putg HO.out (j : Int) (wrap64 (rd u (j : Int) + 1))).1
    have GB := Aside0.mk (Nat.le_trans hlo gb); have GK := Aside0.mk hg
    clear gb gl HG hg
    have HIN := Aside0.mk hin; clear hin
    have i1 : (0 : Int) ≤ (j : Int) := by omega
    have i2 : (j : Int) < (t.length : Int) := by omega
    by_cases hk' : (el zNode t j).kind = 29
    · have hk : ((el zNode t j).kind == 29) = true := by simp [hk']
      have hp : partB t i (j : Int) 2 = true := by simp [partB, kindAt, HIN.out, hk']
      have HPB := Aside0.mk hp; clear hp
      go_enter Try.func158, Try.ntmps158
      go_wp2_with fail
      refine (cIn _ _ _ _).mono ?_; rintro e w1 ⟨rfl, ⟨⟨n1, rfl⟩⟩⟩; rw [HIN.out]
      have hy0 := pw_cell_below (below_set (v := .int .i64 (wrap64 (rdOf 0 u (j : Int) + 1))) (j := j) (pw_below_drewN HB.out n1) GB.out) PX.out
      go_wp2
      go_ret
      have KK := Aside0.mk (Kept.setCell (p := ⟨go, j, none⟩) (Kept.refl w ok) (.inl GK.out) (.int .i64 (wrap64 (rdOf 0 u (j : Int) + 1))))
      exact ⟨by rw [HPB.out]; rfl, u.set (j : Int).toNat (wrap64 (rd u (j : Int) + 1)), Kd.R_move HP.out (fun k _ => rfl), by rw [List.length_set]; exact HU.out, fun _ => by simp [pk, bumps, bump], below_set (pw_below_drewN HB.out n1) GB.out, ⟨KK.out.1, KK.out.2⟩⟩
    have hk : ((el zNode t j).kind == 29) = false := by simp [hk']
    have hp : partB t i (j : Int) 2 = false := by simp [partB, kindAt, HIN.out, hk']
    have HPB := Aside0.mk hp; clear hp
    go_enter Try.func158, Try.ntmps158
    go_wp2_with fail
    refine (cIn _ _ _ _).mono ?_; rintro e w1 ⟨rfl, ⟨⟨n1, rfl⟩⟩⟩; rw [HIN.out]
    have hy0 := pw_cell_below (below_set (v := .int .i64 (wrap64 (rdOf 0 u (j : Int) + 1))) (j := j) (pw_below_drewN HB.out n1) GB.out) PX.out
    go_wp2
    go_ret
    have KK := Aside0.mk (Kept.setCell (p := ⟨go, j, none⟩) (Kept.refl w ok) (.inl GK.out) (.int .i64 (wrap64 (rdOf 0 u (j : Int) + 1))))
    exact ⟨by rw [HPB.out]; rfl, u.set (j : Int).toNat (wrap64 (rd u (j : Int) + 1)), Kd.R_move HP.out (fun k _ => rfl), by rw [List.length_set]; exact HU.out, fun h => by rw [HPB.out] at h; exact absurd h (by decide), below_set (pw_below_drewN HB.out n1) GB.out, ⟨KK.out.1, KK.out.2⟩⟩
  · skip
    go_enter Try.func158, Try.ntmps158
    go_wp2
    go_ret
    exact ⟨rfl, u, HO.out, HU.out, fun _ => rfl, HB.out, Kept.refl _ _⟩
  · skip
    by_cases hm : x = -1
    · subst hm
      go_enter Try.func158, Try.ntmps158
      go_wp2
      go_ret
      exact ⟨rfl, u, HO.out, HU.out, fun _ => rfl, HB.out, Kept.refl _ _⟩
    have hm2 : (x == -1) = false := by simp [hm]
    have HM := Aside0.mk hm; clear hm
    by_cases hin : inB x 0 ((i : Int) - 1) = true
    rotate_left
    · have hin2 : inB x 0 ((i : Int) - 1) = false := by simpa using hin
      have HIN := Aside0.mk hin2; clear hin hin2
      have hp : partB t i x 4 = false := by simp [partB, HM.out, HIN.out]
      have HP := Aside0.mk hp; clear hp
      go_enter Try.func158, Try.ntmps158
      go_wp2_with fail
      refine (cIn _ _ _ _).mono ?_; rintro e w1 ⟨rfl, ⟨⟨n1, rfl⟩⟩⟩; rw [HIN.out]
      go_wp2
      go_ret
      exact ⟨by rw [HP.out]; rfl, u, Kd.R_below HO.out (pw_below_drewN (Below.refl _ _) _), HU.out, fun h => by rw [HP.out] at h; exact absurd h (by decide), pw_below_drewN HB.out _, ⟨Nat.le_refl _, fun _ _ _ => rfl⟩⟩
    obtain ⟨j, rfl⟩ : ∃ j : Nat, x = j := ⟨x.toNat, by have := of_decide_eq_true hin; omega⟩
    have hj : j < i := by have := of_decide_eq_true hin; omega
    have hjt : j < t.length := by omega
    obtain ⟨pa, pA4, pc4, pA5, pc5, rfl, pK, px0, px1, px2, px3, px4, px5, px6, px7⟩ := NodeI_at HT.out j hjt
    clear pK px1 px2 px3 px4 px5 px6 px7
    have PX := Aside0.mk px0; clear px0
    have hju : (j : Int) < (u.length : Int) := by have := HU.out; omega
    obtain ⟨go, co, hv, gb, gl, cl, HG⟩ := Kd.R_form HO.out (by omega)
    have hg : ok go := HOK.out go (by rw [hv]; simp [Value.ownBlock])
    injection hv with hA _ hc
    subst hA; subst hc
    obtain ⟨hx0, hf0⟩ := Kd.R_celln 0 HO.out (j : Int) (by omega) hju
    rw [Int.toNat_natCast] at hx0 hf0
    have HP := Aside0.mk (Kd.R_putg HO.out (j : Int) (wrap64 (rd u (j : Int) + 1))).1
    have GB := Aside0.mk (Nat.le_trans hlo gb); have GK := Aside0.mk hg
    clear gb gl HG hg
    have HIN := Aside0.mk hin; clear hin
    have i1 : (0 : Int) ≤ (j : Int) := by omega
    have i2 : (j : Int) < (t.length : Int) := by omega
    clear hm2; have hm2 : ((j : Int) == -1) = false := by simp
    by_cases hk' : (el zNode t j).kind = 29
    · have hk : ((el zNode t j).kind == 29) = true := by simp [hk']
      have hp : partB t i (j : Int) 4 = true := by simp [partB, kindAt, HIN.out, show ¬ ((j : Int) = -1) by omega, hk']
      have HPB := Aside0.mk hp; clear hp
      go_enter Try.func158, Try.ntmps158
      go_wp2_with fail
      refine (cIn _ _ _ _).mono ?_; rintro e w1 ⟨rfl, ⟨⟨n1, rfl⟩⟩⟩; rw [HIN.out]
      have hy0 := pw_cell_below (below_set (v := .int .i64 (wrap64 (rdOf 0 u (j : Int) + 1))) (j := j) (pw_below_drewN HB.out n1) GB.out) PX.out
      go_wp2
      go_ret
      have KK := Aside0.mk (Kept.setCell (p := ⟨go, j, none⟩) (Kept.refl w ok) (.inl GK.out) (.int .i64 (wrap64 (rdOf 0 u (j : Int) + 1))))
      exact ⟨by rw [HPB.out]; rfl, u.set (j : Int).toNat (wrap64 (rd u (j : Int) + 1)), Kd.R_move HP.out (fun k _ => rfl), by rw [List.length_set]; exact HU.out, fun _ => by simp [pk, bumps, bump], below_set (pw_below_drewN HB.out n1) GB.out, ⟨KK.out.1, KK.out.2⟩⟩
    have hk : ((el zNode t j).kind == 29) = false := by simp [hk']
    by_cases hk2' : (el zNode t j).kind = 23
    · have hk2 : ((el zNode t j).kind == 23) = true := by simp [hk2']
      have hp : partB t i (j : Int) 4 = true := by simp [partB, kindAt, HIN.out, show ¬ ((j : Int) = -1) by omega, hk', hk2']
      have HPB := Aside0.mk hp; clear hp
      go_enter Try.func158, Try.ntmps158
      go_wp2_with fail
      refine (cIn _ _ _ _).mono ?_; rintro e w1 ⟨rfl, ⟨⟨n1, rfl⟩⟩⟩; rw [HIN.out]
      have hy0 := pw_cell_below (below_set (v := .int .i64 (wrap64 (rdOf 0 u (j : Int) + 1))) (j := j) (pw_below_drewN HB.out n1) GB.out) PX.out
      go_wp2
      go_ret
      have KK := Aside0.mk (Kept.setCell (p := ⟨go, j, none⟩) (Kept.refl w ok) (.inl GK.out) (.int .i64 (wrap64 (rdOf 0 u (j : Int) + 1))))
      exact ⟨by rw [HPB.out]; rfl, u.set (j : Int).toNat (wrap64 (rd u (j : Int) + 1)), Kd.R_move HP.out (fun k _ => rfl), by rw [List.length_set]; exact HU.out, fun _ => by simp [pk, bumps, bump], below_set (pw_below_drewN HB.out n1) GB.out, ⟨KK.out.1, KK.out.2⟩⟩
    have hk2 : ((el zNode t j).kind == 23) = false := by simp [hk2']
    have hp : partB t i (j : Int) 4 = false := by simp [partB, kindAt, HIN.out, show ¬ ((j : Int) = -1) by omega, hk', hk2']
    have HPB := Aside0.mk hp; clear hp
    go_enter Try.func158, Try.ntmps158
    go_wp2_with fail
    refine (cIn _ _ _ _).mono ?_; rintro e w1 ⟨rfl, ⟨⟨n1, rfl⟩⟩⟩; rw [HIN.out]
    have hy0 := pw_cell_below (below_set (v := .int .i64 (wrap64 (rdOf 0 u (j : Int) + 1))) (j := j) (pw_below_drewN HB.out n1) GB.out) PX.out
    go_wp2
    go_ret
    have KK := Aside0.mk (Kept.setCell (p := ⟨go, j, none⟩) (Kept.refl w ok) (.inl GK.out) (.int .i64 (wrap64 (rdOf 0 u (j : Int) + 1))))
    exact ⟨by rw [HPB.out]; rfl, u.set (j : Int).toNat (wrap64 (rd u (j : Int) + 1)), Kd.R_move HP.out (fun k _ => rfl), by rw [List.length_set]; exact HU.out, fun h => by rw [HPB.out] at h; exact absurd h (by decide), below_set (pw_below_drewN HB.out n1) GB.out, ⟨KK.out.1, KK.out.2⟩⟩
end Go.Proofs.Ytlhfhfamifmijaa.LeafN
end
