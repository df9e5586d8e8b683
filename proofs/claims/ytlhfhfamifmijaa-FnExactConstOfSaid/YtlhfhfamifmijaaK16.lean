/- Part 16 of the proof: general lemmas, contracts of functions, walks. No condition of its own. -/
import Derived.Laws.EntriesVeiled
import Derived.Test.YtlhfhfamifmijaaK14
import Derived.Test.YtlhfhfamifmijaaK15
import Derived.Test.YtlhfhfamifmijaaK9
section
namespace Go.Proofs.Ytlhfhfamifmijaa.LeafN
open Go.RowKit Go.Proofs.YtlhfhfamifmijaaW.PrintWords Go.Proofs.YtlhfhfamifmijaaW.PrintMore Go.Proofs.Ytlhfhfamifmijaa.Law Go.Proofs.Ytlhfhfamifmijaa.Num Go.Proofs.Ytlhfhfamifmijaa
set_option linter.unusedVariables false
set_option linter.unusedSimpArgs false
set_option autoImplicit false
/-- How often each node is a part, among the first m. -/
def usedTo (t : List Node) (m : Nat) : List Int := (t.take m).foldl (fun u n => bumps u (kids n)) (List.replicate t.length 0)
theorem usedTo_succ (t : List Node) {j : Nat} (h : j < t.length) : usedTo t (j + 1) = bumps (usedTo t j) (kids (el zNode t j)) := by
  unfold usedTo
  rw [List.take_succ_eq_append_getElem h, List.foldl_append, el_lt zNode h]
  rfl
noncomputable def treeB (t : List Node) : Bool := inB t.length 1 300 && (kindAt t ((t.length : Int) - 1) == 29 && ((List.range t.length).all (fun i => nodeB t i (el zNode t i)) && (List.range (t.length - 1)).all (fun j => el 0 (usedTo t t.length) j == 1)))
end Go.Proofs.Ytlhfhfamifmijaa.LeafN
end
section
namespace Go.Proofs.Ytlhfhfamifmijaa.LeafN
open Go.RowKit Go.Proofs.YtlhfhfamifmijaaW.PrintWords Go.Proofs.YtlhfhfamifmijaaW.PrintMore Go.Proofs.Ytlhfhfamifmijaa.Law Go.Proofs.Ytlhfhfamifmijaa.Num Go.Proofs.Ytlhfhfamifmijaa
set_option linter.unusedVariables false
set_option linter.unusedSimpArgs false
set_option autoImplicit false
set_option maxHeartbeats 4000000 in
set_option maxRecDepth 100000 in
theorem cSpecTreeOk (A : Option Addr) (c : Nat) (t : List Node) (w : World) (hT : kNodeI.C w A t.length t) (hnum : ∀ n ∈ t, 0 ≤ n.num ∧ n.num < 18446744073709551616) (hlen : t.length ≤ 1048576) :
    Calls Try.prog 53 #[.slice A t.length c] w fun e w' => e = .returned (.bool (treeB t)) ∧ Below w.heap.size w w' := by
  have HT := Aside0.mk hT; have HNUM := Aside0.mk hnum
  clear hT hnum
  rcases Bool.eq_false_or_eq_true (inB (t.length : Int) 1 300) with hin | hin
  rotate_left
  · have HR := Aside0.mk (show treeB t = false by unfold treeB; rw [hin]; rfl)
    have HIN := Aside0.mk hin; clear hin
    go_enter Try.func53, Try.ntmps53
    go_wp2_with fail
    refine (cIn _ _ _ _).mono ?_; rintro e w1 ⟨rfl, ⟨⟨n1, rfl⟩⟩⟩; rw [HIN.out]
    go_wp2
    go_ret
    exact ⟨by rw [HR.out]; rfl, pw_below_drewN (Below.refl _ _) _⟩
  obtain ⟨m, hm⟩ : ∃ m, t.length = m + 1 := ⟨t.length - 1, by have := of_decide_eq_true hin; omega⟩
  have hm300 : m < 300 := by have := of_decide_eq_true hin; omega
  have HIN := Aside0.mk hin; clear hin
  obtain ⟨pa, pA4, pc4, pA5, pc5, rfl, pK, px0, px1, px2, px3, px4, px5, px6, px7⟩ := NodeI_at HT.out m (by omega)
  clear pK px1 px2 px3 px4 px5 px6 px7
  have hmt : ((t.length : Int) - 1).toNat = m := by omega
  have hx0 : w.cell? (pa.add ((t.length - 1) * 8)) = some (.int .i64 (el zNode t m).kind) := by rw [show t.length - 1 = m by omega]; exact px0
  have hx1 : w.cell? (pa.add (m * 8)) = some (.int .i64 (el zNode t m).kind) := px0
  clear px0
  have i1 : (0 : Int) ≤ (t.length : Int) - 1 := by omega
  have i2 : (t.length : Int) - 1 < (t.length : Int) := by omega
  have HK := Aside0.mk (show kindAt t ((t.length : Int) - 1) = (el zNode t m).kind by unfold kindAt; rw [hmt])
  have HM := Aside0.mk hm; clear hm hmt
  rcases Bool.eq_false_or_eq_true ((el zNode t m).kind == 29) with hk | hk
  rotate_left
  · have hkb : ((el zNode t m).kind != 29) = true := by simp [bne, hk]
    have HR := Aside0.mk (show treeB t = false by unfold treeB; rw [HK.out, hk]; simp)
    clear hk
    go_enter Try.func53, Try.ntmps53
    go_wp2_with fail
    refine (cIn _ _ _ _).mono ?_; rintro e w1 ⟨rfl, ⟨⟨n1, rfl⟩⟩⟩; rw [HIN.out]
    go_wp2
    go_ret
    exact ⟨by rw [HR.out]; rfl, pw_below_drewN (Below.refl _ _) _⟩
  have hkb : ((el zNode t m).kind != 29) = false := by simp [bne, hk]
  have HK29 := Aside0.mk hk; clear hk
  go_enter Try.func53, Try.ntmps53
  go_wp2_with fail
  refine (cIn _ _ _ _).mono ?_; rintro e w1 ⟨rfl, ⟨⟨n1, rfl⟩⟩⟩; rw [HIN.out]
  go_wp2_with (refine Kd.R_make (Kd.int .i64) _ 3 rfl (N := _) rfl _ _ _ rfl (t.length : Int) rfl rfl Try.underlying26 (.int .i64 0) 8 (by kernel_rfl) rfl (by decide) (by omega) 0 (ok := fun _ => True) (okp := fun _ => True) rfl (fun _ hk => hk) trivial (by omega) (by omega) (Below.refl _ _) (Nat.le_refl _) ?_; intro v1 w1 ho hb hg_ hnew_; clear hg_ hnew_; have M1 := Aside0.mk (((Mem.start w).draw n1).pushR hb ho); clear ho hb)
  clear hx0 hx1
  obtain ⟨lo, hlo⟩ : ∃ g, g = (w.drewN n1).heap.size := ⟨_, rfl⟩
  obtain ⟨hi, hhi⟩ : ∃ g, g = w1.heap.size := ⟨_, rfl⟩
  rw [← hlo, ← hhi] at M1
  clear hlo hhi
  go_loopw [4] (fun v wr => ∃ (j : Nat) (uj : List Int), v = .int .i64 j ∧ j ≤ t.length ∧ Aside0 (uj.length = t.length) ∧ Aside0 (∀ q : Nat, q < j → nodeB t q (el zNode t q) = true) ∧ Aside0 (uj = usedTo t j) ∧ Aside0 (Mem w wr [Hold.val (Kd.slice 3 (Kd.int .i64)) lo hi uj [v1]])) (fun v _ => t.length - (intOf v).toNat)
  case atStart => exact ⟨0, _, rfl, by omega, ⟨by simp⟩, ⟨fun q hq => by omega⟩, ⟨by simp [usedTo]⟩, M1⟩
  case round =>
  clear M1
  obtain ⟨j, uj, rfl, hj, HUJ, HN, HE, M2⟩ := hrel
  by_cases hlt : j < t.length
  · have hjl : (j : Int) < (t.length : Int) := by omega
    go_wp2_with fail
    refine (cNode (some pa) c t j v1 uj w _ lo hi [] M2.out HT.out hlt hlen HUJ.out (HNUM.out _ (el_mem zNode hlt))).mono ?_
    rintro e w2 ⟨rfl, u', hmm, hu', hk⟩
    have M3 := Aside0.mk hmm; have HU' := Aside0.mk hu'; have HKK := Aside0.mk hk
    clear hmm hu' hk
    rcases Bool.eq_false_or_eq_true (nodeB t j (el zNode t j)) with hb | hb
    · rw [hb]
      have HB := Aside0.mk hb; clear hb
      go_wp2
      go_roundw
      case measure => simp [intOf]; omega
      case rel => exact ⟨j + 1, u', by go_num, by omega, HU', ⟨fun q hq => by rcases Nat.lt_succ_iff_lt_or_eq.1 hq with h | h; exact HN.out q h; rw [h]; exact HB.out⟩, ⟨by rw [usedTo_succ t hlt, ← HE.out]; exact HKK.out HB.out⟩, M3⟩
    · rw [hb]
      have HR := Aside0.mk (show treeB t = false by
        unfold treeB
        rw [show (List.range t.length).all (fun i => nodeB t i (el zNode t i)) = false from by rw [List.all_eq_false]; exact ⟨j, List.mem_range.2 hlt, by rw [hb]; decide⟩]
        simp)
      clear hb
      go_wp2
      go_ret
      exact ⟨by rw [HR.out]; rfl, M3.out.below⟩
  have hjl : j = t.length := by omega
  subst hjl
  have HA := Aside0.mk (show (List.range t.length).all (fun i => nodeB t i (el zNode t i)) = true from by rw [List.all_eq_true]; intro q hq; exact HN.out q (List.mem_range.1 hq))
  clear HN hlt hj
  have R0 := M2.out.row (.head _)
  obtain ⟨go, co, hv, gb, gl, cl, HG⟩ := Kd.R_form R0 (by have := HUJ.out; have := HM.out; omega)
  subst hv
  clear gb gl HG R0
  go_wp2_with fail
  go_loopw [5] (fun v wr => ∃ (j : Nat), v = .int .i64 j ∧ j ≤ m ∧ Aside0 (∀ q : Nat, q < j → el 0 uj q = 1) ∧ Aside0 (Mem w wr [Hold.val (Kd.slice 3 (Kd.int .i64)) lo hi uj [.slice (some ⟨go, 0, none⟩) uj.length co]])) (fun v _ => m - (intOf v).toNat)
  case atStart => exact ⟨0, rfl, by omega, ⟨fun q hq => by omega⟩, M2⟩
  case round =>
  clear M2
  obtain ⟨j, rfl, hj, HN, M2⟩ := hrel
  by_cases hlt : j < m
  · have hjl : (j : Int) + 1 < (t.length : Int) := by have := HM.out; omega
    have hju : (j : Int) < (uj.length : Int) := by have := HUJ.out; omega
    obtain ⟨hx0, hf0⟩ := Kd.R_celln 0 (M2.out.row (.head _)) (j : Int) (by omega) hju
    rw [Int.toNat_natCast, rdOf_el] at hx0
    clear hf0
    rcases Bool.eq_false_or_eq_true (el 0 uj j == 1) with hb | hb
    · have hbb : (el 0 uj j != 1) = false := by simp [bne, hb]
      have HB := Aside0.mk (show el 0 uj j = 1 by simpa using hb); clear hb
      go_wp2
      go_roundw
      case measure => simp [intOf]; omega
      case rel => exact ⟨j + 1, by go_num, by omega, ⟨fun q hq => by rcases Nat.lt_succ_iff_lt_or_eq.1 hq with h | h; exact HN.out q h; rw [h]; exact HB.out⟩, M2⟩
    · have hbb : (el 0 uj j != 1) = true := by simp [bne, hb]
      have HR := Aside0.mk (show treeB t = false by
        unfold treeB
        rw [show (List.range (t.length - 1)).all (fun j => el 0 (usedTo t t.length) j == 1) = false from by rw [List.all_eq_false]; exact ⟨j, List.mem_range.2 (by have := HM.out; omega), by rw [← HE.out, hb]; decide⟩]
        simp)
      clear hb
      go_wp2
      go_ret
      exact ⟨by rw [HR.out]; rfl, M2.out.below⟩
  have hjl : ¬ (j : Int) + 1 < (t.length : Int) := by have := HM.out; omega
  have HR := Aside0.mk (show treeB t = true by
    unfold treeB
    rw [HIN.out, HK.out, HK29.out, HA.out, show (List.range (t.length - 1)).all (fun j => el 0 (usedTo t t.length) j == 1) = true from by rw [List.all_eq_true]; intro q hq; rw [← HE.out]; have := HN.out q (by have := List.mem_range.1 hq; have := HM.out; omega); simp [this]]
    rfl)
  go_wp2
  go_ret
  exact ⟨by rw [HR.out]; rfl, M2.out.below⟩
end Go.Proofs.Ytlhfhfamifmijaa.LeafN
end
section
namespace Go.Proofs.Ytlhfhfamifmijaa
open Go.RowKit Go.Proofs.YtlhfhfamifmijaaW.PrintWords Go.Proofs.YtlhfhfamifmijaaW.PrintMore
set_option linter.unusedVariables false
/-- The functions that a part may be asked by: of an expression, of a block, of a statement, of a block or an if. -/
def fnNo (c : Nat) : Nat := if c = 0 then 163 else if c = 1 then 164 else if c = 2 then 171 else 165
def fnV (c : Nat) : Value := .func (.func (fnNo c)) #[] #[]
def kFn : Kd Nat := Kd.scalar fnV (fun _ => rfl)
structure Want where
  x : Int
  is_ : Nat
  deriving DecidableEq
def zWant : Want := ⟨0, 0⟩
def kWant : Kd Want := Kd.iso (Kd.pair (Kd.int .i64) kFn) (fun x : Want => (x.x, x.is_))
theorem kWant_open {w : World} {x : Want} {cs : List Value} (h : kWant.K w x cs) : cs = [.int .i64 x.x, (fnV x.is_)] := by
  obtain ⟨_, _, rfl, rfl, rfl⟩ := h
  exact rfl
theorem kWant_mkM (w : World) (base : Nat) (ok : Nat → Prop) (x : Want) : kWant.M w base ok x [.int .i64 x.x, (fnV x.is_)] := ⟨_, _, rfl, rfl, rfl⟩
theorem Want_at {w : World} {A : Option Addr} {l : List Want} (h : kWant.C w A l.length l) (j : Nat) (hj : j < l.length) : ∃ a, A = some a ∧ kWant.K w (el zWant l j) [.int .i64 (el zWant l j).x, (fnV (el zWant l j).is_)] ∧ w.cell? (a.add (j * 2)) = some (.int .i64 (el zWant l j).x) ∧ w.cell? ⟨(a.add (j * 2)).block, (a.add (j * 2)).off + 1, none⟩ = some ((fnV (el zWant l j).is_)) := by
  obtain ⟨a, c, e, hK, hc0⟩ := kd_at zWant h j hj
  have hc : ∀ i u, c[i]? = some u → w.cell? (a.add (j * 2 + i)) = some u := hc0
  have e2 := kWant_open hK
  subst e2
  exact ⟨a, e, hK, hc 0 _ rfl, by rw [← add_field _ _ 1 (by omega)]; exact hc 1 _ rfl⟩
end Go.Proofs.Ytlhfhfamifmijaa
end
section
namespace Go.Proofs.Ytlhfhfamifmijaa.LeafN
open Go.RowKit Go.Proofs.YtlhfhfamifmijaaW.PrintWords Go.Proofs.YtlhfhfamifmijaaW.PrintMore Go.Proofs.Ytlhfhfamifmijaa.Law Go.Proofs.Ytlhfhfamifmijaa.Num Go.Proofs.Ytlhfhfamifmijaa
set_option linter.unusedVariables false
set_option linter.unusedSimpArgs false
set_option autoImplicit false
theorem cIsStmt (k : Int) (w : World) : Calls Try.prog 171 #[.int .i64 k] w fun e w' => e = .returned (.bool (stmtB k)) ∧ Drawn0 w w' := by
  go_enter Try.func171, Try.ntmps171
  go_wp2_with fail
  refine (cWithin _ _ _ _).mono ?_; rintro e w1 ⟨rfl, ⟨⟨n1, rfl⟩⟩⟩
  go_wp2
  go_ret
  exact ⟨rfl, ⟨⟨_, rfl⟩⟩⟩
theorem cWant1 (k : Int) (w : World) : Calls Try.prog 165 #[.int .i64 k] w fun e w' => e = .returned (.bool (k == 29 || k == 23)) ∧ Drawn0 w w' := by
  rcases Bool.eq_false_or_eq_true (k == 29) with h | h
  · go_enter Try.func165, Try.ntmps165
    go_wp2
    go_ret
    exact ⟨by rw [h]; rfl, Drawn0.refl _⟩
  · go_enter Try.func165, Try.ntmps165
    go_wp2
    go_ret
    exact ⟨by rw [h]; rfl, Drawn0.refl _⟩
/-- What each of them says of a kind. -/
def fnSem (c : Nat) (k : Int) : Bool := if c = 0 then exprB k else if c = 1 then k == 29 else if c = 2 then stmtB k else (k == 29 || k == 23)
theorem cFn (c : Nat) (k : Int) (w : World) : Calls Try.prog (fnNo c) #[.int .i64 k] w fun e w' => e = .returned (.bool (fnSem c k)) ∧ Drawn0 w w' := by
  unfold fnNo fnSem
  by_cases h0 : c = 0
  · rw [if_pos h0, if_pos h0]; exact cIsExpr k w
  · rw [if_neg h0, if_neg h0]
    by_cases h1 : c = 1
    · rw [if_pos h1, if_pos h1]; exact cIsBlock k w
    · rw [if_neg h1, if_neg h1]
      by_cases h2 : c = 2
      · rw [if_pos h2, if_pos h2]; exact cIsStmt k w
      · rw [if_neg h2, if_neg h2]; exact cWant1 k w
theorem cListIs0 (k : Int) (hk : ¬ k = 29) (w : World) : Calls Try.prog 110 #[.int .i64 k] w fun e w' => e = .returned (fnV 0) ∧ Drawn0 w w' := by
  have hb : (k == 29) = false := by simp [hk]
  clear hk
  go_enter Try.func110, Try.ntmps110
  go_wp2
  go_ret
  exact ⟨rfl, Drawn0.refl _⟩
theorem cListIs1 (w : World) : Calls Try.prog 110 #[.int .i64 29] w fun e w' => e = .returned (fnV 2) ∧ Drawn0 w w' := by
  go_enter Try.func110, Try.ntmps110
  go_wp2
  go_ret
  exact ⟨rfl, Drawn0.refl _⟩
theorem cListIs (k : Int) (w : World) : Calls Try.prog 110 #[.int .i64 k] w fun e w' => e = .returned (fnV (if k = 29 then 2 else 0)) ∧ Drawn0 w w' := by
  by_cases h : k = 29
  · rw [if_pos h, h]; exact cListIs1 w
  · rw [if_neg h]; exact cListIs0 k h w
theorem C_of_int {w : World} {k : IntKind} {A : Option Addr} {n : Nat} {xs : List Int} (h : ReadsInt w k A n xs) : (Kd.int k).C w A n xs := by
  refine ⟨h.1, h.2.1, fun hn => ?_⟩
  obtain ⟨ad, e, hc⟩ := h.2.2 hn
  refine ⟨ad, e, fun j p hp => ⟨[.int k p], rfl, rfl, fun i u hu => ?_⟩⟩
  have hj : j < xs.length := (List.getElem?_eq_some_iff.1 hp).1
  have h2 := hc j (by rw [← h.1]; exact hj)
  rw [List.getD_eq_getElem?_getD, hp] at h2
  cases i with
  | zero =>
    have : Value.int k p = u := by simpa using hu
    subst this
    show w.cell? (ad.add (j * 1 + 0)) = _
    rw [Nat.mul_one]
    exact h2
  | succ i => simp at hu
set_option maxHeartbeats 4000000 in
set_option maxRecDepth 100000 in
theorem cQuoted (s : ByteArray) (w : World) : Calls Try.prog 167 #[.string s] w fun e w' => e = .returned (.bool (textOk s)) ∧ Below w.heap.size w w' := by
  have HT := Aside0.mk (text_impl s)
  by_cases hl : (s.size : Int) ≤ 40
  rotate_left
  · have HF := Aside0.mk (show textOk s = false by rw [HT.out, decide_eq_false hl]; rfl)
    have hd : decide ((s.size : Int) ≤ 40) = false := decide_eq_false hl
    go_enter Try.func167, Try.ntmps167
    go_wp2
    go_ret
    exact ⟨by rw [HF.out]; rfl, Below.refl _ _⟩
  have hd : decide ((s.size : Int) ≤ 40) = true := decide_eq_true hl
  rcases Bool.eq_false_or_eq_true (plainFrom s s.size 0) with hp | hp
  rotate_left
  · have HF := Aside0.mk (show textOk s = false by rw [HT.out, hp]; simp)
    go_enter Try.func167, Try.ntmps167
    go_wp2_with fail
    refine (cPlain s (by omega) _).mono ?_; rintro e w1 ⟨rfl, ⟨⟨n1, rfl⟩⟩⟩; rw [hp]
    go_wp2
    go_ret
    exact ⟨by rw [HF.out]; rfl, pw_below_drewN (Below.refl _ _) _⟩
  have HF := Aside0.mk (show textOk s = !decide ((34 : Int) ∈ bytesOf s) by rw [HT.out, hp, hd]; simp)
  clear HT
  go_enter Try.func167, Try.ntmps167
  go_wp2_with fail
  refine (cPlain s (by omega) _).mono ?_; rintro e w1 ⟨rfl, ⟨⟨n1, rfl⟩⟩⟩; rw [hp]
  go_wp2_with fail
  rw [print_bytes (P := Try.prog) 9 111 (e := 5) Try.underlying9 Try.underlying111 Try.underlying5 s (w.drewN n1)]
  go_wp2_with fail
  have hl2 := bytesOf_length s
  have C := C_of_int (bytes_reads (w.drewN n1) 5 s (by omega))
  have HB := Aside0.mk (bytes_below (pw_below_drewN (Below.refl w.heap.size w) n1) (Nat.le_refl _) 5 s)
  rw [← hl2] at C ⊢
  refine (cHasByte _ _ (bytesOf s) 34 _ C (grownCap_ge _ _ _ _) (by omega)).mono ?_
  rintro e w2 ⟨rfl, ⟨⟨n2, rfl⟩⟩⟩
  go_wp2
  go_ret
  exact ⟨by rw [HF.out]; rfl, pw_below_drewN HB.out _⟩
end Go.Proofs.Ytlhfhfamifmijaa.LeafN
end
section
namespace Go.Proofs.Ytlhfhfamifmijaa.LeafN
open Go.RowKit Go.Proofs.YtlhfhfamifmijaaW.PrintWords Go.Proofs.YtlhfhfamifmijaaW.PrintMore Go.Proofs.Ytlhfhfamifmijaa.Law Go.Proofs.Ytlhfhfamifmijaa.Num Go.Proofs.Ytlhfhfamifmijaa
set_option linter.unusedVariables false
set_option linter.unusedSimpArgs false
set_option autoImplicit false
def wantCells : List Want → List Value
  | [] => []
  | v :: l => [.int .i64 v.x, fnV v.is_] ++ wantCells l
theorem want_reps (w : World) (base : Nat) (ok : Nat → Prop) : ∀ l : List Want, Reps (kWant.M w base ok) 2 l (wantCells l)
  | [] => Reps.none _ _
  | v :: l => Reps.c2 (kWant_mkM w base ok v) (want_reps w base ok l)
theorem R_lits (W : World) (base : Nat) (l : List Want) (cells : Array Value) (n : Nat) (hc : cells = (wantCells l).toArray) (hb : base ≤ W.heap.size ∧ n = l.length ∧ l.length ≤ 100) : kWant.R 153 (W.alloc (.cells cells 153)) base (fun _ => True) (.slice (some ⟨W.heap.size, 0, none⟩) n n) l := by
  obtain ⟨hb, rfl, hl⟩ := hb
  subst hc
  refine ⟨fun _ _ => trivial, wantCells l, ?_, want_reps _ _ _ l⟩
  have h2 := World.ownsRow_lit (base := base) (e := 153) (size := 2) W (wantCells l).toArray l.length hb (by unfold maxLen; omega) (by simpa using (want_reps W base (fun _ => True) l).1)
  exact (by simpa using h2 : (W.alloc (Obj.cells (wantCells l).toArray 153)).ownsRow base 153 2 (Value.slice (some { block := W.heap.size, off := 0 }) l.length l.length) l.length (wantCells l))
theorem R_litg (W : World) (base g : Nat) (l : List Want) (cells : Array Value) (n : Nat) (hc : cells = (wantCells l).toArray) (hg : g = W.heap.size) (hb : base ≤ W.heap.size) (hn : n = l.length) (hl : l.length ≤ 100) : kWant.R 153 (W.alloc (.cells cells 153)) base (fun _ => True) (.slice (some ⟨g, 0, none⟩) n n) l := by
  subst hg
  exact R_lits W base l cells n hc ⟨hb, hn, hl⟩
theorem R_litd (W : World) (base g : Nat) (l : List Want) (cells : Array Value) (n : Nat) (hc : cells = (wantCells l).toArray) (hg : g = W.heap.size) (hb : base ≤ W.heap.size) (hn : n = l.length) (hl : l.length ≤ 100) : kWant.R 153 (W.alloc (.cells cells 153)).drew base (fun _ => True) (.slice (some ⟨g, 0, none⟩) n n) l := Kd.R_below (R_litg W base g l cells n hc hg hb hn hl) (below_drew1 (Below.refl _ _))
theorem R_litn (W : World) (base g : Nat) (l : List Want) (cells : Array Value) (n k : Nat) (hc : cells = (wantCells l).toArray) (hg : g = W.heap.size) (hb : base ≤ W.heap.size) (hn : n = l.length) (hl : l.length ≤ 100) : kWant.R 153 ((W.alloc (.cells cells 153)).drewN k) base (fun _ => True) (.slice (some ⟨g, 0, none⟩) n n) l := Kd.R_below (R_litg W base g l cells n hc hg hb hn hl) (pw_below_drewN (Below.refl _ _) k)
end Go.Proofs.Ytlhfhfamifmijaa.LeafN
end
