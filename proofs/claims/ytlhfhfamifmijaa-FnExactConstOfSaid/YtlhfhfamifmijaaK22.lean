/- Part 22 of the proof: general lemmas, contracts of functions, walks. No condition of its own. -/
import Derived.Test.YtlhfhfamifmijaaK16
import Derived.Test.YtlhfhfamifmijaaK21
section
namespace Go.Proofs.Ytlhfhfamifmijaa.LeafN
open Go.RowKit Go.Proofs.YtlhfhfamifmijaaW.PrintWords Go.Proofs.YtlhfhfamifmijaaW.PrintMore Go.Proofs.Ytlhfhfamifmijaa.Law Go.Proofs.Ytlhfhfamifmijaa.Num Go.Proofs.Ytlhfhfamifmijaa
set_option linter.unusedVariables false
set_option linter.unusedSimpArgs false
set_option autoImplicit false
theorem node_open2 {w : World} {n : Node} {A4 A5 : Option Addr} {c4 c5 l4 l5 : Nat} {k a b c x y : Int} (h : kNodeI.K w n [.int .i64 k, .int .i64 a, .int .i64 b, .int .i64 c, .slice A4 l4 c4, .slice A5 l5 c5, .int .u64 x, .int .i64 y]) : n.list.length ≤ c4 ∧ (Kd.int .i64).C w A4 n.list.length n.list ∧ n.names.length ≤ c5 ∧ Kd.string.C w A5 n.names.length n.names := by
  obtain ⟨qA4, qc4, qA5, qc5, he, h4, g4, h5, g5⟩ := kNodeI_open h
  simp only [List.cons.injEq, Value.slice.injEq, and_true] at he
  obtain ⟨_, _, _, _, ⟨rfl, _, rfl⟩, ⟨rfl, _, rfl⟩, _, _⟩ := he
  exact ⟨h4, g4, h5, g5⟩
/-- The three that the program asks of a fun, a call and a let. -/
def okShape (t : List Node) (i : Int) (n : Node) : Bool := if n.kind = 13 ∧ 4 < n.names.length then false else if n.kind = 12 ∧ 6 < n.list.length then false else if n.kind = 20 ∧ letP t i n = false then false else true
theorem wantsL_len (n : Node) : (wantsL n).length ≤ 3 := by
  unfold wantsL
  repeat' split
  all_goals simp
theorem shape_bad {t : List Node} {i : Int} {n : Node} (h : okShape t i n = false) : nodeI t i n = false := by
  unfold okShape at h
  unfold nodeI
  grind
theorem fn_four {fx cq : Nat} (h : fx = fnNo cq) : fx = 163 ∨ fx = 164 ∨ fx = 171 ∨ fx = 165 := by
  subst h
  unfold fnNo
  repeat' split
  all_goals simp
theorem want_bad {t : List Node} {i : Int} {n : Node} {W : List Want} {p : Nat} (hW : W = wantsAll n) (hp : p < W.length) (h : wantB t i (el zWant W p) = false) : nodeI t i n = false := by
  have e : (wantsAll n).all (wantB t i) = false := by rw [← hW, List.all_eq_false]; exact ⟨_, el_mem zWant hp, by rw [h]; decide⟩
  unfold nodeI
  rw [e]
  simp
theorem node_all {t : List Node} {i : Int} {n : Node} (h1 : wantsO n = true) (h2 : namesB n = true) (h3 : inB n.at_ 0 600 = true) (h4 : okShape t i n = true) : nodeI t i n = (wantsAll n).all (wantB t i) := by
  unfold okShape at h4
  unfold nodeI
  rw [if_pos h1, if_pos h2, if_pos h3]
  grind
set_option maxHeartbeats 4000000 in
set_option maxRecDepth 100000 in
theorem cImplTreeOk (A : Option Addr) (c : Nat) (t : List Node) (w : World) (hT : kNodeI.C w A t.length t) (hnum : ∀ n ∈ t, 0 ≤ n.num ∧ n.num < 18446744073709551616) (hlen : t.length ≤ 1048576) (hcap : t.length ≤ c) (hll : ∀ n ∈ t, n.list.length ≤ 1048576) :
    Calls Try.prog 55 #[.slice A t.length c] w fun e w' => e = .returned (.bool (treeB t)) ∧ Below w.heap.size w w' := by
  have HT := Aside0.mk hT; have HNUM := Aside0.mk hnum
  have HCAP := Aside0.mk hcap; have HLL := Aside0.mk hll; clear hcap hll
  clear hT hnum
  rcases Bool.eq_false_or_eq_true (inB (t.length : Int) 1 300) with hin | hin
  rotate_left
  · have HR := Aside0.mk (show treeB t = false by unfold treeB; rw [hin]; rfl)
    have HIN := Aside0.mk hin; clear hin
    go_enter Try.func55, Try.ntmps55
    go_wp2_with fail
    refine (cWithin _ _ _ _).mono ?_; rintro e w1 ⟨rfl, ⟨⟨n1, rfl⟩⟩⟩; rw [HIN.out]
    go_wp2
    go_ret
    exact ⟨by rw [HR.out]; rfl, pw_below_drewN (Below.refl _ _) _⟩
  obtain ⟨m, hm⟩ : ∃ m, t.length = m + 1 := ⟨t.length - 1, by have := of_decide_eq_true hin; omega⟩
  have hm300 : m < 300 := by have := of_decide_eq_true hin; omega
  have HIN := Aside0.mk hin; clear hin
  obtain ⟨pa, pA4, pc4, pA5, pc5, rfl, pK, px0, px1, px2, px3, px4, px5, px6, px7⟩ := NodeI_at HT.out m (by omega)
  clear pK px1 px2 px3 px4 px5 px6 px7
  have hmt : ((t.length : Int) - 1).toNat = m := by omega
  have hx0 : w.cell? (pa.add ((t.length - 1) * 8)) = some (.int .i64 (el zNode t m).kind) := by rw [show t.length - 1 = m by omega]; exact px0
  have hx1 : w.cell? (pa.add (m * 8)) = some (.int .i64 (el zNode t m).kind) := px0
  clear px0
  have i1 : (0 : Int) ≤ (t.length : Int) - 1 := by omega
  have i2 : (t.length : Int) - 1 < (t.length : Int) := by omega
  have HK := Aside0.mk (show kindAt t ((t.length : Int) - 1) = (el zNode t m).kind by unfold kindAt; rw [hmt])
  have HM := Aside0.mk hm; clear hm hmt
  rcases Bool.eq_false_or_eq_true ((el zNode t m).kind == 29) with hk | hk
  rotate_left
  · have hkb : ((el zNode t m).kind != 29) = true := by simp [bne, hk]
    have HR := Aside0.mk (show treeB t = false by unfold treeB; rw [HK.out, hk]; simp)
    clear hk
    go_enter Try.func55, Try.ntmps55
    go_wp2_with fail
    refine (cWithin _ _ _ _).mono ?_; rintro e w1 ⟨rfl, ⟨⟨n1, rfl⟩⟩⟩; rw [HIN.out]
    go_wp2
    go_ret
    exact ⟨by rw [HR.out]; rfl, pw_below_drewN (Below.refl _ _) _⟩
  have hkb : ((el zNode t m).kind != 29) = false := by simp [bne, hk]
  have HK29 := Aside0.mk hk; clear hk
  go_enter Try.func55, Try.ntmps55
  go_wp2_with fail
  refine (cWithin _ _ _ _).mono ?_; rintro e w1 ⟨rfl, ⟨⟨n1, rfl⟩⟩⟩; rw [HIN.out]
  go_wp2_with (refine Kd.R_make (Kd.int .i64) _ 3 rfl (N := _) rfl _ _ _ rfl (t.length : Int) rfl rfl Try.underlying26 (.int .i64 0) 8 (by kernel_rfl) rfl (by decide) (by omega) 0 (ok := fun _ => True) (okp := fun _ => True) rfl (fun _ hk => hk) trivial (by omega) (by omega) (Below.refl _ _) (Nat.le_refl _) ?_; intro v1 w1 ho hb hg_ hnew_; clear hg_ hnew_; have M1 := Aside0.mk (((Mem.start w).draw n1).pushR hb ho); clear ho hb)
  clear hx0 hx1
  obtain ⟨lo, hlo⟩ : ∃ g, g = (w.drewN n1).heap.size := ⟨_, rfl⟩
  obtain ⟨hi, hhi⟩ : ∃ g, g = w1.heap.size := ⟨_, rfl⟩
  rw [← hlo, ← hhi] at M1
  clear hlo hhi
  go_loopw [35] (fun v wr => ∃ (j : Nat) (uj : List Int), v = .int .i64 j ∧ j ≤ t.length ∧ Aside0 (uj.length = t.length) ∧ Aside0 (∀ q : Nat, q < j → nodeB t q (el zNode t q) = true) ∧ Aside0 (uj = usedTo t j) ∧ Aside0 (Mem w wr [Hold.val (Kd.slice 3 (Kd.int .i64)) lo hi uj [v1]])) (fun v _ => t.length - (intOf v).toNat)
  case atStart => exact ⟨0, _, rfl, by omega, ⟨by simp⟩, ⟨fun q hq => by omega⟩, ⟨by simp [usedTo]⟩, M1⟩
  case round =>
  clear M1
  obtain ⟨j, uj, rfl, hj, HUJ, HN, HE, M2⟩ := hrel
  by_cases hlt : j < t.length
  · have hjl : (j : Int) < (t.length : Int) := by omega
    obtain ⟨pa2, pA4, pc4, pA5, pc5, hpa, pK, px0, px1, px2, px3, px4, px5, px6, px7⟩ := NodeI_at HT.out j hlt
    cases hpa
    replace px0 := pw_cell_below M2.out.below px0; replace px1 := pw_cell_below M2.out.below px1; replace px2 := pw_cell_below M2.out.below px2; replace px3 := pw_cell_below M2.out.below px3; replace px4 := pw_cell_below M2.out.below px4; replace px5 := pw_cell_below M2.out.below px5; replace px6 := pw_cell_below M2.out.below px6; replace px7 := pw_cell_below M2.out.below px7
    have HLN := Aside0.mk (HLL.out _ (el_mem zNode hlt))
    have HNM := Aside0.mk (HNUM.out _ (el_mem zNode hlt))
    have HBAD := Aside0.mk (fun (h : nodeB t j (el zNode t j) = false) => (show treeB t = false by
        unfold treeB
        rw [show (List.range t.length).all (fun i => nodeB t i (el zNode t i)) = false from by rw [List.all_eq_false]; exact ⟨j, List.mem_range.2 hlt, by rw [h]; decide⟩]
        simp))
    have HSUC := Aside0.mk (usedTo_succ t hlt)
    obtain ⟨n, hn⟩ : ∃ n, n = el zNode t j := ⟨_, rfl⟩
    rw [← hn] at px0 px1 px2 px3 px4 px5 px6 px7 pK HNM HBAD HSUC HLN
    obtain ⟨h4, g4, h5, g5⟩ := node_open2 pK
    have hl4 : n.list.length ≤ 9223372036854775807 := g4.2.1
    have hl5 : n.names.length ≤ 9223372036854775807 := g5.2.1
    have PK := Aside0.mk (kNodeI.K_below M2.out.below pK); have G4 := Aside0.mk g4; have HNN := Aside0.mk hn
    clear pK g4 g5 h4 h5 hn
    have hun := Try.underlying142
    have M3 := Aside0.mk (M2.out.allocAt rfl #[.int .i64 n.kind, .int .i64 n.a, .int .i64 n.b, .int .i64 n.c, .slice pA4 n.list.length pc4, .slice pA5 n.names.length pc5, .int .u64 n.num, .int .i64 n.at_] 142)
    have KK := Aside0.mk (kNodeI.K_below (below_alloc (Below.refl wr.heap.size wr) (.cells #[.int .i64 n.kind, .int .i64 n.a, .int .i64 n.b, .int .i64 n.c, .slice pA4 n.list.length pc4, .slice pA5 n.names.length pc5, .int .u64 n.num, .int .i64 n.at_] 142)) PK.out)
    have hsame := same_node t j n
    have HS := Aside0.mk hsame; clear hsame
    go_wp2_with fail
    clear px0 px1 px2 px3 px4 px5 px6 px7
    refine (cWants n _ _ KK.out).mono ?_
    rintro e w2 ⟨v2, rfl, hr, hb⟩
    have M4 := Aside0.mk (M3.out.pushR hb hr)
    have K4 := Aside0.mk (kNodeI.K_below hb KK.out)
    obtain ⟨lo2, hlo2⟩ : ∃ g, g = (wr.alloc (.cells #[.int .i64 n.kind, .int .i64 n.a, .int .i64 n.b, .int .i64 n.c, .slice pA4 n.list.length pc4, .slice pA5 n.names.length pc5, .int .u64 n.num, .int .i64 n.at_] 142)).heap.size := ⟨_, rfl⟩
    obtain ⟨hi3, hhi3⟩ : ∃ g, g = w2.heap.size := ⟨_, rfl⟩
    rw [← hlo2, ← hhi3] at M4
    obtain ⟨v2A, v2c, rfl⟩ := Kd.R_slice hr
    have HLO2 := Aside0.mk (show lo2 = wr.heap.size + 1 by rw [hlo2]; simp)
    have HHI := Aside0.mk (M2.out.fits _ (.head _)).2
    clear hr hb KK hlo2 hhi3
    have zn := M4.out.box (.tail _ (.head _))
    rcases Bool.eq_false_or_eq_true (wantsO n) with ho | ho
    rotate_left
    · rw [ho]
      have HF := Aside0.mk (HBAD.out (by rw [← HS.out]; unfold nodeI; rw [ho]; rfl))
      go_wp2
      go_ret
      exact ⟨by rw [HF.out]; rfl, M4.out.below⟩
    rw [ho]
    have HO := Aside0.mk ho; clear ho
    go_wp2_with fail
    refine (cNames n _ _ K4.out HNM.out).mono ?_
    rintro e w3 ⟨rfl, hb⟩
    have M5 := Aside0.mk (M4.out.step hb); have K5 := Aside0.mk (kNodeI.K_below hb K4.out); clear hb zn
    have zn := M5.out.box (.tail _ (.head _))
    rcases Bool.eq_false_or_eq_true (namesB n) with hnb | hnb
    rotate_left
    · rw [hnb]
      have HF := Aside0.mk (HBAD.out (by rw [← HS.out]; unfold nodeI; rw [HO.out, hnb]; rfl))
      clear hnb
      go_wp2
      go_ret
      exact ⟨by rw [HF.out]; rfl, M5.out.below⟩
    rw [hnb]
    have HNB := Aside0.mk hnb; clear hnb
    go_wp2_with fail
    refine (cWithin _ _ _ _).mono ?_; rintro e w4 ⟨rfl, ⟨⟨n4, rfl⟩⟩⟩
    rcases Bool.eq_false_or_eq_true (inB n.at_ 0 600) with hat | hat
    rotate_left
    · rw [hat]
      have HF := Aside0.mk (HBAD.out (by rw [← HS.out]; unfold nodeI; rw [HO.out, HNB.out, hat]; rfl))
      clear hat
      go_wp2
      go_ret
      exact ⟨by rw [HF.out]; rfl, (M5.out.draw _).below⟩
    rw [hat]
    have HAT := Aside0.mk hat; clear hat
    go_upto_region 11 with fail
    have hshape : okShape t j n = okShape t j n := rfl
    clear hshape
    go_cut [90] (fun v wx => v = .bool (!okShape t j n) ∧ Aside0 (Mem w wx [Hold.val (Kd.slice 153 kWant) lo2 hi3 (wantsL n) [.slice v2A (wantsL n).length v2c], Hold.box wr.heap.size #[.int .i64 n.kind, .int .i64 n.a, .int .i64 n.b, .int .i64 n.c, .slice pA4 n.list.length pc4, .slice pA5 n.names.length pc5, .int .u64 n.num, .int .i64 n.at_] 142, Hold.val (Kd.slice 3 (Kd.int .i64)) lo hi uj [v1]]))
    case first =>
      rcases Bool.eq_false_or_eq_true (n.kind == 13) with k13 | k13
      · have h13 : n.kind = 13 := by simpa using k13
        have k12 : (n.kind == 12) = false := by simp [h13]
        have k20 : (n.kind == 20) = false := by simp [h13]
        by_cases hb : (4 : Int) < (n.names.length : Int)
        · have hb1 : decide ((4 : Int) < (n.names.length : Int)) = true := decide_eq_true hb
          have hb2 : decide (4 < n.names.length) = true := decide_eq_true (by omega)
          have hb3 : 4 < n.names.length := by omega
          have H13 := Aside0.mk h13; clear h13
          have HOK := Aside0.mk (show okShape t j n = false by simp [okShape, H13.out, hb3])
          go_quiet (fail)
          go_wp2_with fail
          go_meet
          exact ⟨by rw [HOK.out]; first | rfl | simp [*], by first | exact ⟨M5.out.draw _⟩ | exact ⟨(M5.out.draw _).draw _⟩ | exact ⟨((M5.out.draw _).draw _).drew⟩ | exact ⟨(M5.out.draw _).drew⟩⟩
        · have hb1 : decide ((4 : Int) < (n.names.length : Int)) = false := decide_eq_false hb
          have hb2 : decide (4 < n.names.length) = false := decide_eq_false (by omega)
          have hb3 : ¬ 4 < n.names.length := by omega
          have H13 := Aside0.mk h13; clear h13
          have HOK := Aside0.mk (show okShape t j n = true by simp [okShape, H13.out, hb3])
          go_quiet (fail)
          go_wp2_with fail
          go_meet
          exact ⟨by rw [HOK.out]; first | rfl | simp [*], by first | exact ⟨M5.out.draw _⟩ | exact ⟨(M5.out.draw _).draw _⟩ | exact ⟨((M5.out.draw _).draw _).drew⟩ | exact ⟨(M5.out.draw _).drew⟩⟩
      rcases Bool.eq_false_or_eq_true (n.kind == 12) with k12 | k12
      · have h12 : n.kind = 12 := by simpa using k12
        have k20 : (n.kind == 20) = false := by simp [h12]
        by_cases hb : (6 : Int) < (n.list.length : Int)
        · have hb1 : decide ((6 : Int) < (n.list.length : Int)) = true := decide_eq_true hb
          have hb2 : decide (6 < n.list.length) = true := decide_eq_true (by omega)
          have hb3 : 6 < n.list.length := by omega
          have H12 := Aside0.mk h12; clear h12
          have HOK := Aside0.mk (show okShape t j n = false by simp [okShape, H12.out, hb3])
          go_quiet (fail)
          go_wp2_with fail
          go_meet
          exact ⟨by rw [HOK.out]; first | rfl | simp [*], by first | exact ⟨M5.out.draw _⟩ | exact ⟨(M5.out.draw _).draw _⟩ | exact ⟨((M5.out.draw _).draw _).drew⟩ | exact ⟨(M5.out.draw _).drew⟩⟩
        · have hb1 : decide ((6 : Int) < (n.list.length : Int)) = false := decide_eq_false hb
          have hb2 : decide (6 < n.list.length) = false := decide_eq_false (by omega)
          have hb3 : ¬ 6 < n.list.length := by omega
          have H12 := Aside0.mk h12; clear h12
          have HOK := Aside0.mk (show okShape t j n = true by simp [okShape, H12.out, hb3])
          go_quiet (fail)
          go_wp2_with fail
          go_meet
          exact ⟨by rw [HOK.out]; first | rfl | simp [*], by first | exact ⟨M5.out.draw _⟩ | exact ⟨(M5.out.draw _).draw _⟩ | exact ⟨((M5.out.draw _).draw _).drew⟩ | exact ⟨(M5.out.draw _).drew⟩⟩
      have h13 : ¬ n.kind = 13 := by simpa using k13
      have h12 : ¬ n.kind = 12 := by simpa using k12
      rcases Bool.eq_false_or_eq_true (n.kind == 20) with k20 | k20
      rotate_left
      · have h20 : ¬ n.kind = 20 := by simpa using k20
        have HOK := Aside0.mk (show okShape t j n = true by simp [okShape, h13, h12, h20])
        go_quiet (fail)
        go_wp2_with fail
        go_meet
        exact ⟨by rw [HOK.out]; first | rfl | simp [*], by first | exact ⟨M5.out.draw _⟩ | exact ⟨(M5.out.draw _).draw _⟩ | exact ⟨((M5.out.draw _).draw _).drew⟩ | exact ⟨(M5.out.draw _).drew⟩⟩
      have h20 : n.kind = 20 := by simpa using k20
      have HOK := Aside0.mk (show okShape t j n = letP t j n by unfold okShape; rw [if_neg (fun h => h13 h.1), if_neg (fun h => h12 h.1)]; rcases Bool.eq_false_or_eq_true (letP t j n) with h | h <;> simp [h20, h])
      clear h13 h12 h20
      have hjj : (j : Int) ≤ (t.length : Int) := by omega
      have hjc : j ≤ c := by have := HCAP.out; omega
      have hjc2 : (j : Int) ≤ (c : Int) := by omega
      refine wp_region_held_drew (S := (fun W => (∀ o, W.cell? ⟨wr.heap.size, o, none⟩ = (#[.int .i64 n.kind, .int .i64 n.a, .int .i64 n.b, .int .i64 n.c, .slice pA4 n.list.length pc4, .slice pA5 n.names.length pc5, .int .u64 n.num, .int .i64 n.at_] : Array Value)[o]?) ∧ Mem w W [Hold.val (Kd.slice 153 kWant) lo2 hi3 (wantsL n) [.slice v2A (wantsL n).length v2c], Hold.box wr.heap.size #[.int .i64 n.kind, .int .i64 n.a, .int .i64 n.b, .int .i64 n.c, .slice pA4 n.list.length pc4, .slice pA5 n.names.length pc5, .int .u64 n.num, .int .i64 n.at_] 142, Hold.val (Kd.slice 3 (Kd.int .i64)) lo hi uj [v1]])) (by kernel_rfl) ?_ (fun hHeld => ?_)
      · exact ⟨(M5.out.draw _).drew.box (.tail _ (.head _)), (M5.out.draw _).drew⟩
      refine wpAnyH_take (i := 0) (oi := _) (v := ?v0_1) rfl (by kernel_rfl) (by kernel_rfl) (by kernel_rfl) (fun _ _ _ h => h) (Or.inl ⟨by kernel_rfl, ?hy0_1⟩) (by assumption) ?rest0_1
      case hy0_1 => (intro w hSw; (try dsimp only at hSw); go_simp; try with_reducible rfl)
      try simp only [Act.put, List.getElem_toArray, List.getElem_cons_zero, List.getElem_cons_succ, List.setIfInBounds_toArray, List.set_cons_zero, List.set_cons_succ]
      refine wpAnyH_take (i := 1) (oi := _) (v := ?v1_2) rfl (by kernel_rfl) (by kernel_rfl) (by kernel_rfl) (fun _ _ _ h => h) (Or.inl ⟨by kernel_rfl, ?hy1_2⟩) (by assumption) ?rest1_2
      case hy1_2 => (intro w hSw; (try dsimp only at hSw); go_simp; try with_reducible rfl)
      try simp only [Act.put, List.getElem_toArray, List.getElem_cons_zero, List.getElem_cons_succ, List.setIfInBounds_toArray, List.set_cons_zero, List.set_cons_succ]
      refine wpAnyH_take (i := 2) (oi := _) (v := ?v2_3) rfl (by kernel_rfl) (by kernel_rfl) (by kernel_rfl) (fun _ _ _ h => h) (Or.inl ⟨by kernel_rfl, ?hy2_3⟩) (by assumption) ?rest2_3
      case hy2_3 => (intro w hSw; (try dsimp only at hSw); go_simp; try with_reducible rfl)
      try simp only [Act.put, List.getElem_toArray, List.getElem_cons_zero, List.getElem_cons_succ, List.setIfInBounds_toArray, List.set_cons_zero, List.set_cons_succ]
      refine wpAnyH_take (i := 3) (oi := _) (v := ?v3_4) rfl (by kernel_rfl) (by kernel_rfl) (by kernel_rfl) (fun _ _ _ h => h) (Or.inl ⟨by kernel_rfl, ?hy3_4⟩) (by assumption) ?rest3_4
      case hy3_4 => (intro w hSw; (try dsimp only at hSw); go_simp; try with_reducible rfl)
      try simp only [Act.put, List.getElem_toArray, List.getElem_cons_zero, List.getElem_cons_succ, List.setIfInBounds_toArray, List.set_cons_zero, List.set_cons_succ]
      refine wpAnyH_take (i := 4) (oi := _) (v := undef) rfl (by kernel_rfl) (by kernel_rfl) (by kernel_rfl) (fun _ _ _ h => h) (Or.inr ⟨by kernel_rfl, rfl⟩) (by assumption) ?_
      try simp only [Act.put, List.getElem_toArray, List.getElem_cons_zero, List.getElem_cons_succ, List.setIfInBounds_toArray, List.set_cons_zero, List.set_cons_succ]
      refine wpAnyH_take (i := 5) (oi := _) (v := undef) rfl (by kernel_rfl) (by kernel_rfl) (by kernel_rfl) (fun _ _ _ h => h) (Or.inr ⟨by kernel_rfl, rfl⟩) (by assumption) ?_
      try simp only [Act.put, List.getElem_toArray, List.getElem_cons_zero, List.getElem_cons_succ, List.setIfInBounds_toArray, List.set_cons_zero, List.set_cons_succ]
      refine wpAnyH_take (i := 6) (oi := _) (v := undef) rfl (by kernel_rfl) (by kernel_rfl) (by kernel_rfl) (fun _ _ _ h => h) (Or.inr ⟨by kernel_rfl, rfl⟩) (by assumption) ?_
      try simp only [Act.put, List.getElem_toArray, List.getElem_cons_zero, List.getElem_cons_succ, List.setIfInBounds_toArray, List.set_cons_zero, List.set_cons_succ]
      refine wpAnyH_take (i := 7) (oi := _) (v := undef) rfl (by kernel_rfl) (by kernel_rfl) (by kernel_rfl) (fun _ _ _ h => h) (Or.inr ⟨by kernel_rfl, rfl⟩) (by assumption) ?_
      try simp only [Act.put, List.getElem_toArray, List.getElem_cons_zero, List.getElem_cons_succ, List.setIfInBounds_toArray, List.set_cons_zero, List.set_cons_succ]
      refine wpAnyH_take (i := 8) (oi := _) (v := ?v8_5) rfl (by kernel_rfl) (by kernel_rfl) (by kernel_rfl) (fun _ _ _ h => h) (Or.inl ⟨by kernel_rfl, ?hy8_5⟩) (by assumption) ?rest8_5
      case hy8_5 => (intro w hSw; (try dsimp only at hSw); go_simp; try with_reducible rfl)
      try simp only [Act.put, List.getElem_toArray, List.getElem_cons_zero, List.getElem_cons_succ, List.setIfInBounds_toArray, List.set_cons_zero, List.set_cons_succ]
      refine wpAnyH_take (i := 9) (oi := _) (v := ?v9_6) rfl (by kernel_rfl) (by kernel_rfl) (by kernel_rfl) (fun _ _ _ h => h) (Or.inl ⟨by kernel_rfl, ?hy9_6⟩) (by assumption) ?rest9_6
      case hy9_6 => (intro w hSw; (try dsimp only at hSw); go_simp; try with_reducible rfl)
      try simp only [Act.put, List.getElem_toArray, List.getElem_cons_zero, List.getElem_cons_succ, List.setIfInBounds_toArray, List.set_cons_zero, List.set_cons_succ]
      refine wpAnyH_take (i := 10) (oi := _) (v := ?v10_7) rfl (by kernel_rfl) (by kernel_rfl) (by kernel_rfl) (fun _ _ _ h => h) (Or.inl ⟨by kernel_rfl, ?hy10_7⟩) (by assumption) ?rest10_7
      case hy10_7 => (intro w hSw; (try dsimp only at hSw); go_simp; try with_reducible rfl)
      try simp only [Act.put, List.getElem_toArray, List.getElem_cons_zero, List.getElem_cons_succ, List.setIfInBounds_toArray, List.set_cons_zero, List.set_cons_succ]
      refine wpAnyH_take (i := 11) (oi := _) (v := ?v11_8) rfl (by kernel_rfl) (by kernel_rfl) (by kernel_rfl) (fun _ _ _ h => h) (Or.inl ⟨by kernel_rfl, ?hy11_8⟩) (by assumption) ?rest11_8
      case hy11_8 => (intro w hSw; (try dsimp only at hSw); go_simp; try with_reducible rfl)
      try simp only [Act.put, List.getElem_toArray, List.getElem_cons_zero, List.getElem_cons_succ, List.setIfInBounds_toArray, List.set_cons_zero, List.set_cons_succ]
      refine wpAnyH_take (i := 12) (oi := _) (v := ?v12_9) rfl (by kernel_rfl) (by kernel_rfl) (by kernel_rfl) (fun _ _ _ h => h) (Or.inl ⟨by kernel_rfl, ?hy12_9⟩) (by assumption) ?rest12_9
      case hy12_9 => (intro w hSw; (try dsimp only at hSw); go_simp; try with_reducible rfl)
      try simp only [Act.put, List.getElem_toArray, List.getElem_cons_zero, List.getElem_cons_succ, List.setIfInBounds_toArray, List.set_cons_zero, List.set_cons_succ]
      refine wpAnyH_take (i := 13) (oi := _) (v := ?v13_10) rfl (by kernel_rfl) (by kernel_rfl) (by kernel_rfl) (fun _ _ _ h => h) (Or.inl ⟨by kernel_rfl, ?hy13_10⟩) (by assumption) ?rest13_10
      case hy13_10 => (intro w hSw; (try dsimp only at hSw); go_simp; try with_reducible rfl)
      try simp only [Act.put, List.getElem_toArray, List.getElem_cons_zero, List.getElem_cons_succ, List.setIfInBounds_toArray, List.set_cons_zero, List.set_cons_succ]
      refine wpAnyH_take (i := 14) (oi := _) (v := undef) rfl (by kernel_rfl) (by kernel_rfl) (by kernel_rfl) (fun _ _ _ h => h) (Or.inr ⟨by kernel_rfl, rfl⟩) (by assumption) ?_
      try simp only [Act.put, List.getElem_toArray, List.getElem_cons_zero, List.getElem_cons_succ, List.setIfInBounds_toArray, List.set_cons_zero, List.set_cons_succ]
      refine wpAnyH_take (i := 15) (oi := _) (v := undef) rfl (by kernel_rfl) (by kernel_rfl) (by kernel_rfl) (fun _ _ _ h => h) (Or.inr ⟨by kernel_rfl, rfl⟩) (by assumption) ?_
      try simp only [Act.put, List.getElem_toArray, List.getElem_cons_zero, List.getElem_cons_succ, List.setIfInBounds_toArray, List.set_cons_zero, List.set_cons_succ]
      refine wpAnyH_take (i := 16) (oi := _) (v := undef) rfl (by kernel_rfl) (by kernel_rfl) (by kernel_rfl) (fun _ _ _ h => h) (Or.inr ⟨by kernel_rfl, rfl⟩) (by assumption) ?_
      try simp only [Act.put, List.getElem_toArray, List.getElem_cons_zero, List.getElem_cons_succ, List.setIfInBounds_toArray, List.set_cons_zero, List.set_cons_succ]
      refine wpAnyH_take (i := 17) (oi := _) (v := undef) rfl (by kernel_rfl) (by kernel_rfl) (by kernel_rfl) (fun _ _ _ h => h) (Or.inr ⟨by kernel_rfl, rfl⟩) (by assumption) ?_
      try simp only [Act.put, List.getElem_toArray, List.getElem_cons_zero, List.getElem_cons_succ, List.setIfInBounds_toArray, List.set_cons_zero, List.set_cons_succ]
      refine wpAnyH_take (i := 18) (oi := _) (v := ?v18_11) rfl (by kernel_rfl) (by kernel_rfl) (by kernel_rfl) (fun _ _ _ h => h) (Or.inl ⟨by kernel_rfl, ?hy18_11⟩) (by assumption) ?rest18_11
      case hy18_11 => (intro w hSw; (try dsimp only at hSw); go_simp; try with_reducible rfl)
      try simp only [Act.put, List.getElem_toArray, List.getElem_cons_zero, List.getElem_cons_succ, List.setIfInBounds_toArray, List.set_cons_zero, List.set_cons_succ]
      refine wpAnyH_take (i := 19) (oi := _) (v := ?v19_12) rfl (by kernel_rfl) (by kernel_rfl) (by kernel_rfl) (fun _ _ _ h => h) (Or.inl ⟨by kernel_rfl, ?hy19_12⟩) (by assumption) ?rest19_12
      case hy19_12 => (intro w hSw; (try dsimp only at hSw); go_simp; try with_reducible rfl)
      try simp only [Act.put, List.getElem_toArray, List.getElem_cons_zero, List.getElem_cons_succ, List.setIfInBounds_toArray, List.set_cons_zero, List.set_cons_succ]
      refine wpAnyH_take (i := 20) (oi := _) (v := ?v20_13) rfl (by kernel_rfl) (by kernel_rfl) (by kernel_rfl) (fun _ _ _ h => h) (Or.inl ⟨by kernel_rfl, ?hy20_13⟩) (by assumption) ?rest20_13
      case hy20_13 => (intro w hSw; (try dsimp only at hSw); go_simp; try with_reducible rfl)
      try simp only [Act.put, List.getElem_toArray, List.getElem_cons_zero, List.getElem_cons_succ, List.setIfInBounds_toArray, List.set_cons_zero, List.set_cons_succ]
      refine wpAnyH_take (i := 21) (oi := _) (v := ?v21_14) rfl (by kernel_rfl) (by kernel_rfl) (by kernel_rfl) (fun _ _ _ h => h) (Or.inl ⟨by kernel_rfl, ?hy21_14⟩) (by assumption) ?rest21_14
      case hy21_14 => (intro w hSw; (try dsimp only at hSw); go_simp; try with_reducible rfl)
      try simp only [Act.put, List.getElem_toArray, List.getElem_cons_zero, List.getElem_cons_succ, List.setIfInBounds_toArray, List.set_cons_zero, List.set_cons_succ]
      refine wpAnyH_take (i := 22) (oi := _) (v := ?v22_15) rfl (by kernel_rfl) (by kernel_rfl) (by kernel_rfl) (fun _ _ _ h => h) (Or.inl ⟨by kernel_rfl, ?hy22_15⟩) (by assumption) ?rest22_15
      case hy22_15 => (intro w hSw; (try dsimp only at hSw); go_simp; try with_reducible rfl)
      try simp only [Act.put, List.getElem_toArray, List.getElem_cons_zero, List.getElem_cons_succ, List.setIfInBounds_toArray, List.set_cons_zero, List.set_cons_succ]
      refine wpAnyH_take (i := 23) (oi := _) (v := ?v23_16) rfl (by kernel_rfl) (by kernel_rfl) (by kernel_rfl) (fun _ _ _ h => h) (Or.inl ⟨by kernel_rfl, ?hy23_16⟩) (by assumption) ?rest23_16
      case hy23_16 => (intro w hSw; (try dsimp only at hSw); go_simp; try with_reducible rfl)
      try simp only [Act.put, List.getElem_toArray, List.getElem_cons_zero, List.getElem_cons_succ, List.setIfInBounds_toArray, List.set_cons_zero, List.set_cons_succ]
      refine wpAnyH_take (i := 24) (oi := _) (v := ?v24_17) rfl (by kernel_rfl) (by kernel_rfl) (by kernel_rfl) (fun _ _ _ h => h) (Or.inl ⟨by kernel_rfl, ?hy24_17⟩) (by assumption) ?rest24_17
      case hy24_17 => (intro w hSw; (try dsimp only at hSw); go_simp; try with_reducible rfl)
      try simp only [Act.put, List.getElem_toArray, List.getElem_cons_zero, List.getElem_cons_succ, List.setIfInBounds_toArray, List.set_cons_zero, List.set_cons_succ]
      refine wpAnyH_take (i := 25) (oi := _) (v := ?v25_18) rfl (by kernel_rfl) (by kernel_rfl) (by kernel_rfl) (fun _ _ _ h => h) (Or.inl ⟨by kernel_rfl, ?hy25_18⟩) (by assumption) ?rest25_18
      case hy25_18 => (intro w hSw; (try dsimp only at hSw); go_simp; try with_reducible rfl)
      try simp only [Act.put, List.getElem_toArray, List.getElem_cons_zero, List.getElem_cons_succ, List.setIfInBounds_toArray, List.set_cons_zero, List.set_cons_succ]
      refine wpAnyH_take (i := 26) (oi := _) (v := ?v26_19) rfl (by kernel_rfl) (by kernel_rfl) (by kernel_rfl) (fun _ _ _ h => h) (Or.inl ⟨by kernel_rfl, ?hy26_19⟩) (by assumption) ?rest26_19
      case hy26_19 => (intro w hSw; (try dsimp only at hSw); go_simp; try with_reducible rfl)
      try simp only [Act.put, List.getElem_toArray, List.getElem_cons_zero, List.getElem_cons_succ, List.setIfInBounds_toArray, List.set_cons_zero, List.set_cons_succ]
      refine wpAnyH_take (i := 27) (oi := _) (v := ?v27_20) rfl (by kernel_rfl) (by kernel_rfl) (by kernel_rfl) (fun _ _ _ h => h) (Or.inl ⟨by kernel_rfl, ?hy27_20⟩) (by assumption) ?rest27_20
      case hy27_20 => (intro w hSw; (try dsimp only at hSw); go_simp; try with_reducible rfl)
      try simp only [Act.put, List.getElem_toArray, List.getElem_cons_zero, List.getElem_cons_succ, List.setIfInBounds_toArray, List.set_cons_zero, List.set_cons_succ]
      refine wpAnyH_take (i := 28) (oi := _) (v := ?v28_21) rfl (by kernel_rfl) (by kernel_rfl) (by kernel_rfl) (fun _ _ _ h => h) (Or.inl ⟨by kernel_rfl, ?hy28_21⟩) (by assumption) ?rest28_21
      case hy28_21 => (intro w hSw; (try dsimp only at hSw); go_simp; try with_reducible rfl)
      try simp only [Act.put, List.getElem_toArray, List.getElem_cons_zero, List.getElem_cons_succ, List.setIfInBounds_toArray, List.set_cons_zero, List.set_cons_succ]
      refine wpAnyH_ready (rs := [29]) (by kernel_rfl) (by simp) ?_
      refine AllReadyH.cons (o := _) rfl (fun K hK => ?_) AllReadyH.nil
      go_simp
      go_at_call 109; refine (cLetOk (some pa) c j t n _ _ (Kd.C_below HT.out hHeld.2.below) (by omega) (kNodeI.K_below (below_drew1 (pw_below_drewN (Below.refl _ _) _)) K5.out) hlen).mono ?_
      rintro e w7 ⟨rfl, hb7⟩
      rw [show (n.b == 0 || (n.b == 1 && (inB n.a 0 ((j : Int) - 1) && kindAt t n.a == 13))) = letP t j n from rfl]
      have M7 := Aside0.mk (hHeld.2.step hb7); clear hb7
      rcases Bool.eq_false_or_eq_true (letP t j n) with hlp | hlp
      · rw [hlp]
        have HLP := Aside0.mk hlp; clear hlp
        go_wp2_with fail
        refine hK.out _ _ ?_ (fun hHeld2 => ?_)
        · exact ⟨M7.out.box (.tail _ (.head _)), M7.out⟩
        clear hK K
        try simp only [Act.put, List.getElem_toArray, List.getElem_cons_zero, List.getElem_cons_succ, List.setIfInBounds_toArray, List.set_cons_zero, List.set_cons_succ]
        refine wpAnyH_take (i := 30) (oi := _) (v := ?v30_22) rfl (by kernel_rfl) (by kernel_rfl) (by kernel_rfl) (fun _ _ _ h => h) (Or.inl ⟨by kernel_rfl, ?hy30_22⟩) (by assumption) ?rest30_22
        case hy30_22 => (intro w hSw; (try dsimp only at hSw); go_simp; try with_reducible rfl)
        try simp only [Act.put, List.getElem_toArray, List.getElem_cons_zero, List.getElem_cons_succ, List.setIfInBounds_toArray, List.set_cons_zero, List.set_cons_succ]
        refine wpAnyH_take (i := 31) (oi := _) (v := ?v31_23) rfl (by kernel_rfl) (by kernel_rfl) (by kernel_rfl) (fun _ _ _ h => h) (Or.inl ⟨by kernel_rfl, ?hy31_23⟩) (by assumption) ?rest31_23
        case hy31_23 => (intro w hSw; (try dsimp only at hSw); go_simp; try with_reducible rfl)
        try simp only [Act.put, List.getElem_toArray, List.getElem_cons_zero, List.getElem_cons_succ, List.setIfInBounds_toArray, List.set_cons_zero, List.set_cons_succ]
        refine wpAnyH_take (i := 32) (oi := _) (v := ?v32_24) rfl (by kernel_rfl) (by kernel_rfl) (by kernel_rfl) (fun _ _ _ h => h) (Or.inl ⟨by kernel_rfl, ?hy32_24⟩) (by assumption) ?rest32_24
        case hy32_24 => (intro w hSw; (try dsimp only at hSw); go_simp; try with_reducible rfl)
        try simp only [Act.put, List.getElem_toArray, List.getElem_cons_zero, List.getElem_cons_succ, List.setIfInBounds_toArray, List.set_cons_zero, List.set_cons_succ]
        refine wpAnyH_done (by kernel_rfl) ?_ _
        go_wp2_with fail
        go_meet
        exact ⟨by rw [HOK.out, HLP.out]; first | rfl | simp [*], M7⟩
      · rw [hlp]
        have HLP := Aside0.mk hlp; clear hlp
        go_wp2_with fail
        refine hK.out _ _ ?_ (fun hHeld2 => ?_)
        · exact ⟨M7.out.box (.tail _ (.head _)), M7.out⟩
        clear hK K
        try simp only [Act.put, List.getElem_toArray, List.getElem_cons_zero, List.getElem_cons_succ, List.setIfInBounds_toArray, List.set_cons_zero, List.set_cons_succ]
        refine wpAnyH_take (i := 30) (oi := _) (v := ?v30_25) rfl (by kernel_rfl) (by kernel_rfl) (by kernel_rfl) (fun _ _ _ h => h) (Or.inl ⟨by kernel_rfl, ?hy30_25⟩) (by assumption) ?rest30_25
        case hy30_25 => (intro w hSw; (try dsimp only at hSw); go_simp; try with_reducible rfl)
        try simp only [Act.put, List.getElem_toArray, List.getElem_cons_zero, List.getElem_cons_succ, List.setIfInBounds_toArray, List.set_cons_zero, List.set_cons_succ]
        refine wpAnyH_take (i := 31) (oi := _) (v := ?v31_26) rfl (by kernel_rfl) (by kernel_rfl) (by kernel_rfl) (fun _ _ _ h => h) (Or.inl ⟨by kernel_rfl, ?hy31_26⟩) (by assumption) ?rest31_26
        case hy31_26 => (intro w hSw; (try dsimp only at hSw); go_simp; try with_reducible rfl)
        try simp only [Act.put, List.getElem_toArray, List.getElem_cons_zero, List.getElem_cons_succ, List.setIfInBounds_toArray, List.set_cons_zero, List.set_cons_succ]
        refine wpAnyH_take (i := 32) (oi := _) (v := ?v32_27) rfl (by kernel_rfl) (by kernel_rfl) (by kernel_rfl) (fun _ _ _ h => h) (Or.inl ⟨by kernel_rfl, ?hy32_27⟩) (by assumption) ?rest32_27
        case hy32_27 => (intro w hSw; (try dsimp only at hSw); go_simp; try with_reducible rfl)
        try simp only [Act.put, List.getElem_toArray, List.getElem_cons_zero, List.getElem_cons_succ, List.setIfInBounds_toArray, List.set_cons_zero, List.set_cons_succ]
        refine wpAnyH_done (by kernel_rfl) ?_ _
        go_wp2_with fail
        go_meet
        exact ⟨by rw [HOK.out, HLP.out]; first | rfl | simp [*], M7⟩
    case rest =>
    clear zn M5 K5
    obtain ⟨rfl, M6⟩ := hcut
    have zn := M6.out.box (.tail _ (.head _))
    rcases Bool.eq_false_or_eq_true (okShape t j n) with hs | hs
    rotate_left
    · rw [hs]
      have HF := Aside0.mk (HBAD.out (by rw [← HS.out]; exact shape_bad hs))
      clear hs
      go_wp2
      go_ret
      exact ⟨by rw [HF.out]; rfl, M6.out.below⟩
    rw [hs, Bool.not_true]
    have HSH := Aside0.mk hs; clear hs
    go_wp2_with fail
    obtain ⟨cc, hcc⟩ : ∃ cc, cc = (if n.kind = 29 then 2 else 0 : Nat) := ⟨_, rfl⟩
    have HCC := Aside0.mk hcc; clear hcc
    generalize hgn : wr.heap.size = gn at M6 zn HLO2 HHI ⊢
    go_loopw [7, 94] (fun u v wx => ∃ (q hi4 : Nat) (LA : Option Addr) (LC : Nat), v = .int .i64 q ∧ q ≤ n.list.length ∧ u = .slice LA ((wantsL n).length + q) LC ∧ Aside0 (Mem w wx [Hold.val (Kd.slice 153 kWant) lo2 hi4 (wantsL n ++ (n.list.take q).map (fun x => (⟨x, cc⟩ : Want))) [.slice LA ((wantsL n).length + q) LC], Hold.box gn #[.int .i64 n.kind, .int .i64 n.a, .int .i64 n.b, .int .i64 n.c, .slice pA4 n.list.length pc4, .slice pA5 n.names.length pc5, .int .u64 n.num, .int .i64 n.at_] 142, Hold.val (Kd.slice 3 (Kd.int .i64)) lo hi uj [v1]])) (fun u v _ => n.list.length - (intOf v).toNat)
    case atStart => exact ⟨0, hi3, v2A, v2c, rfl, by omega, rfl, ⟨by simpa using M6.out⟩⟩
    case round =>
    clear zn M6
    obtain ⟨q, hi4, LA, LC, rfl, hq, rfl, M8⟩ := hrel
    have zn := M8.out.box (.tail _ (.head _))
    by_cases hqt : q < n.list.length
    · obtain ⟨xa, hxa0, hxa⟩ := int_at (Kd.C_below G4.out M8.out.below) q hqt
      subst hxa0
      have hql : (q : Int) < (n.list.length : Int) := by omega
      go_wp2_with fail
      refine (cListIs n.kind _).mono ?_
      rintro e w8 ⟨rfl, ⟨⟨n8, rfl⟩⟩⟩
      rw [← HCC.out, show fnV cc = .func (.func (fnNo cc)) #[] #[] from rfl]
      have HOLDS := Aside0.mk (show ∀ x ∈ [Hold.box gn #[.int .i64 n.kind, .int .i64 n.a, .int .i64 n.b, .int .i64 n.c, .slice (some xa) n.list.length pc4, .slice pA5 n.names.length pc5, .int .u64 n.num, .int .i64 n.at_] 142, Hold.val (Kd.slice 3 (Kd.int .i64)) lo hi uj [v1]], x.hi ≤ lo2 from by
        intro x hx
        have h1 := HLO2.out
        have h2 := HHI.out
        rcases List.mem_cons.1 hx with rfl | hx
        · simp only [Hold.box]; omega
        · rcases List.mem_cons.1 hx with rfl | hx
          · simp only [Hold.val] at h2 ⊢; omega
          · exact absurd hx List.not_mem_nil)
      have hsz : lo2 ≤ wr.heap.size := by have h := (M8.out.fits _ (.tail _ (.head _))).2; have := HLO2.out; simp only [Hold.box] at h; omega
      have HSZ := Aside0.mk hsz; clear hsz
      go_wp2_with (first | ((with_reducible refine gate_builtin (b := .append) (xs := #[.tmp 98, .tmp 104]) rfl ?_); at_builtin; refine Kd.R_append kWant (w0 := wr.drewN n8) lo2 rfl (.tmp 98) (.tmp 104) 145 153 (.agg #[.int .i64 0, .nilFunc]) 16 rfl Try.underlying145 infoWant rfl (by decide) (by omega) _ (wantsL n ++ (n.list.take q).map (fun x => (⟨x, cc⟩ : Want))) ⟨el 0 n.list q, cc⟩ [.int .i64 (el 0 n.list q), .func (.func (fnNo cc)) #[] #[]] (fun k => lo2 ≤ k) (fun _ => False) rfl ?aX ?aP (fun _ hk => hk.elim) ?aF ?aO ?aB ?aS ?aL ?_; (case aX => first | rfl | (go_simp; done) | (go_simp; rfl) | (simp; done)); (case aP => exact kWant_mkM _ _ _ _); (case aF => exact (fun k hk => Nat.le_trans HSZ.out hk)); (case aO => exact (Kd.R_mono ((M8.out.draw n8).row (.head _)) (fun k hk => hk.1))); (case aB => exact Below.refl _ _); (case aS => exact HSZ.out); (case aL => have h1 := HLN.out; have h2 := wantsL_len n; simp only [List.length_append, List.length_map, List.length_take]; omega); intro v9 w9 ho hb9 hg hat; have HO9 := Aside0.mk ho; have HB9 := Aside0.mk hb9; clear ho hb9 hg hat))
      go_roundw
      case measure => simp [intOf]; omega
      case rel =>
        have HG := Aside0.mk (Mem.grow (M8.out.draw n8) HOLDS.out HB9.out HO9.out)
        obtain ⟨v9A, v9c, hv9⟩ := Kd.R_slice HO9.out
        have hln : (wantsL n ++ (n.list.take q).map (fun x => (⟨x, cc⟩ : Want)) ++ [(⟨el 0 n.list q, cc⟩ : Want)]).length = (wantsL n).length + (q + 1) := by simp; omega
        rw [hln] at hv9
        have htk : wantsL n ++ (n.list.take q).map (fun x => (⟨x, cc⟩ : Want)) ++ [(⟨el 0 n.list q, cc⟩ : Want)] = wantsL n ++ (n.list.take (q + 1)).map (fun x => (⟨x, cc⟩ : Want)) := by rw [List.take_succ_eq_append_getElem hqt, List.map_append, ← el_lt 0 hqt, List.append_assoc]; rfl
        refine ⟨q + 1, w9.heap.size, v9A, v9c, by go_num, by omega, hv9, ⟨?_⟩⟩
        have h := HG.out
        rw [htk, hv9] at h
        exact h
    have hql : ¬ (q : Int) < (n.list.length : Int) := by omega
    obtain rfl : q = n.list.length := by omega
    obtain ⟨W, hW⟩ : ∃ W, W = wantsAll n := ⟨_, rfl⟩
    have hWe : wantsL n ++ (n.list.take n.list.length).map (fun x => (⟨x, cc⟩ : Want)) = W := by rw [List.take_length, HCC.out, hW]; rfl
    have hWl : (wantsL n).length + n.list.length = W.length := by rw [← hWe]; simp
    have hWb : W.length ≤ 1048579 := by have h1 := HLN.out; have h2 := wantsL_len n; omega
    rw [hWe, hWl] at M8
    rw [hWl]
    have HWW := Aside0.mk hW
    clear hW hWe hWl hqt hq
    go_wp2_with fail
    clear zn
    go_loopw [109] (fun v wx => ∃ (p : Nat) (up : List Int), v = .int .i64 p ∧ p ≤ W.length ∧ Aside0 (up.length = t.length) ∧ Aside0 (∀ k : Nat, k < p → wantB t j (el zWant W k) = true) ∧ Aside0 (up = bumps uj ((W.take p).map (fun v => v.x))) ∧ Aside0 (Mem w wx ([Hold.val (Kd.slice 153 kWant) lo2 hi4 W [.slice LA W.length LC], Hold.box gn #[.int .i64 n.kind, .int .i64 n.a, .int .i64 n.b, .int .i64 n.c, .slice pA4 n.list.length pc4, .slice pA5 n.names.length pc5, .int .u64 n.num, .int .i64 n.at_] 142, Hold.val (Kd.slice 3 (Kd.int .i64)) lo hi up [v1]]))) (fun v _ => W.length - (intOf v).toNat)
    case atStart => exact ⟨0, uj, rfl, by omega, HUJ, ⟨fun k hk => by omega⟩, ⟨rfl⟩, M8⟩
    case round =>
    clear M8
    obtain ⟨p, up, rfl, hp, HUP, HWB, HPE, M9⟩ := hrel
    by_cases hpt : p < W.length
    · have hpl : (p : Int) < (W.length : Int) := by omega
      obtain ⟨wa, hwa, wK, wx0, wx1⟩ := Want_at (Kd.R_reads' (M9.out.row (.head _))).2.2 p hpt
      cases hwa
      clear wK
      obtain ⟨x, cq, hv⟩ : ∃ x cq, el zWant W p = ⟨x, cq⟩ := ⟨_, _, rfl⟩
      rw [hv] at wx0 wx1
      dsimp only at wx0 wx1
      rw [show fnV cq = Value.func (.func (fnNo cq)) #[] #[] from rfl] at wx1
      obtain ⟨fx, hfx⟩ : ∃ fx, fx = fnNo cq := ⟨_, rfl⟩
      rw [← hfx] at wx1
      have HF4 := Aside0.mk (fn_four hfx)
      have HFX := Aside0.mk hfx; clear hfx
      have HV := Aside0.mk hv; clear hv
      have huw := Try.underlying153
      have M10 := Aside0.mk (M9.out.allocAt rfl #[.int .i64 x, .func (.func fx) #[] #[]] 153)
      go_upto_region 21 with fail
      obtain ⟨gw, hgw⟩ : ∃ g, g = wr.heap.size := ⟨_, rfl⟩
      rw [← hgw] at M10 ⊢
      clear hgw wx0 wx1
      have zw := M10.out.box (.head _)
      go_cut [130] (fun v wx => v = .bool (!wantB t j ⟨x, cq⟩) ∧ Aside0 (Mem w wx (Hold.box gw #[.int .i64 x, .func (.func fx) #[] #[]] 153 :: [Hold.val (Kd.slice 153 kWant) lo2 hi4 W [.slice (some wa) W.length LC], Hold.box gn #[.int .i64 n.kind, .int .i64 n.a, .int .i64 n.b, .int .i64 n.c, .slice pA4 n.list.length pc4, .slice pA5 n.names.length pc5, .int .u64 n.num, .int .i64 n.at_] 142, Hold.val (Kd.slice 3 (Kd.int .i64)) lo hi up [v1]])))
      case first =>
        rcases Bool.eq_false_or_eq_true (inB x 0 ((j : Int) - 1)) with hin | hin
        rotate_left
        · have IR := Aside0.mk (show wantB t j ⟨x, cq⟩ = false by simp [wantB, hin])
          have CW : ∀ W' : World, Calls Try.prog 73 #[.int .i64 x, .int .i64 0, .int .i64 ((j : Int) - 1)] W' fun e w' => e = .returned (.bool false) ∧ ∃ m, w' = W'.drewN m := fun W' => (cWithin x 0 _ W').mono (fun e w' ⟨he, ⟨h⟩⟩ => ⟨by rw [he, hin], h⟩)
          have CW2 := Aside0.mk CW
          clear hin CW
          go_quiet ((go_at_call 73; exact Calls.quiet_of (CW2.out _)))
          go_wp2_with fail
          go_meet
          exact ⟨by rw [IR.out]; rfl, ⟨M10.out.draw _⟩⟩
        have CW : ∀ W' : World, Calls Try.prog 73 #[.int .i64 x, .int .i64 0, .int .i64 ((j : Int) - 1)] W' fun e w' => e = .returned (.bool true) ∧ ∃ m, w' = W'.drewN m := fun W' => (cWithin x 0 _ W').mono (fun e w' ⟨he, ⟨h⟩⟩ => ⟨by rw [he, hin], h⟩)
        have CW2 := Aside0.mk CW; clear CW
        obtain ⟨jx, rfl⟩ : ∃ jx : Nat, x = jx := ⟨x.toNat, by have := of_decide_eq_true hin; omega⟩
        have hjx : jx < t.length := by have := of_decide_eq_true hin; omega
        obtain ⟨pb, pB4, pd4, pB5, pd5, hpb, qK, qx0, qx1, qx2, qx3, qx4, qx5, qx6, qx7⟩ := NodeI_at (Kd.C_below HT.out M10.out.below) jx hjx
        clear qK qx1 qx2 qx3 qx4 qx5 qx6 qx7; cases hpb
        have i1 : (0 : Int) ≤ (jx : Int) := by omega
        have i2 : (jx : Int) < (t.length : Int) := by omega
        rcases Bool.eq_false_or_eq_true (fnSem cq (el zNode t jx).kind) with hk | hk
        · have IR := Aside0.mk (show wantB t j ⟨(jx : Int), cq⟩ = true by simp [wantB, hin, kindAt, hk])
          have CF : ∀ W' : World, Calls Try.prog fx #[.int .i64 (el zNode t jx).kind] W' fun e w' => e = .returned (.bool true) ∧ ∃ m, w' = W'.drewN m := fun W' => by rw [HFX.out]; exact (cFn cq _ W').mono (fun e w' ⟨he, ⟨h⟩⟩ => ⟨by rw [he, hk], h⟩)
          have CF2 := Aside0.mk CF; clear hin hk CF
          rcases HF4.out with rfl | rfl | rfl | rfl
          · go_quiet (first | (go_at_call 73; exact Calls.quiet_of (CW2.out _)) | exact Calls.quiet_of (CF2.out _))
            go_wp2_with fail
            go_meet
            exact ⟨by rw [IR.out]; rfl, ⟨M10.out.draw _⟩⟩
          · go_quiet (first | (go_at_call 73; exact Calls.quiet_of (CW2.out _)) | exact Calls.quiet_of (CF2.out _))
            go_wp2_with fail
            go_meet
            exact ⟨by rw [IR.out]; rfl, ⟨M10.out.draw _⟩⟩
          · go_quiet (first | (go_at_call 73; exact Calls.quiet_of (CW2.out _)) | exact Calls.quiet_of (CF2.out _))
            go_wp2_with fail
            go_meet
            exact ⟨by rw [IR.out]; rfl, ⟨M10.out.draw _⟩⟩
          · go_quiet (first | (go_at_call 73; exact Calls.quiet_of (CW2.out _)) | exact Calls.quiet_of (CF2.out _))
            go_wp2_with fail
            go_meet
            exact ⟨by rw [IR.out]; rfl, ⟨M10.out.draw _⟩⟩
        · have IR := Aside0.mk (show wantB t j ⟨(jx : Int), cq⟩ = false by simp [wantB, hin, kindAt, hk])
          have CF : ∀ W' : World, Calls Try.prog fx #[.int .i64 (el zNode t jx).kind] W' fun e w' => e = .returned (.bool false) ∧ ∃ m, w' = W'.drewN m := fun W' => by rw [HFX.out]; exact (cFn cq _ W').mono (fun e w' ⟨he, ⟨h⟩⟩ => ⟨by rw [he, hk], h⟩)
          have CF2 := Aside0.mk CF; clear hin hk CF
          rcases HF4.out with rfl | rfl | rfl | rfl
          · go_quiet (first | (go_at_call 73; exact Calls.quiet_of (CW2.out _)) | exact Calls.quiet_of (CF2.out _))
            go_wp2_with fail
            go_meet
            exact ⟨by rw [IR.out]; rfl, ⟨M10.out.draw _⟩⟩
          · go_quiet (first | (go_at_call 73; exact Calls.quiet_of (CW2.out _)) | exact Calls.quiet_of (CF2.out _))
            go_wp2_with fail
            go_meet
            exact ⟨by rw [IR.out]; rfl, ⟨M10.out.draw _⟩⟩
          · go_quiet (first | (go_at_call 73; exact Calls.quiet_of (CW2.out _)) | exact Calls.quiet_of (CF2.out _))
            go_wp2_with fail
            go_meet
            exact ⟨by rw [IR.out]; rfl, ⟨M10.out.draw _⟩⟩
          · go_quiet (first | (go_at_call 73; exact Calls.quiet_of (CW2.out _)) | exact Calls.quiet_of (CF2.out _))
            go_wp2_with fail
            go_meet
            exact ⟨by rw [IR.out]; rfl, ⟨M10.out.draw _⟩⟩
      case rest =>
      clear zw M10
      obtain ⟨rfl, M11⟩ := hcut
      have zw := M11.out.box (.head _)
      by_cases hk : wantB t j ⟨x, cq⟩ = true
      rotate_left
      · replace hk : wantB t j ⟨x, cq⟩ = false := by simpa using hk
        have HF := Aside0.mk (HBAD.out (by rw [← HS.out]; exact want_bad HWW.out hpt (by rw [HV.out]; exact hk)))
        rw [show (!wantB t j ⟨x, cq⟩) = true by rw [hk]; rfl]
        clear hk
        go_wp2
        go_ret
        exact ⟨by rw [HF.out]; rfl, M11.out.below⟩
      rw [show (!wantB t j ⟨x, cq⟩) = false by rw [hk]; rfl]
      have hin : inB x 0 ((j : Int) - 1) = true := by rcases Bool.eq_false_or_eq_true (inB x 0 ((j : Int) - 1)) with h | h; exact h; simp [wantB, h] at hk
      have HKX := Aside0.mk hk; clear hk
      obtain ⟨jx, hjx⟩ : ∃ jx : Nat, x = jx := ⟨x.toNat, by have := of_decide_eq_true hin; omega⟩
      have hjt : jx < t.length := by have := of_decide_eq_true hin; omega
      clear hin; subst hjx
      have R0 := M11.out.row (.tail _ (.tail _ (.tail _ (.head _))))
      have hju : (jx : Int) < (up.length : Int) := by have := HUP.out; omega
      obtain ⟨go, co, hv, gb, gl, cl, HG⟩ := Kd.R_form R0 (by omega)
      have hg := R0.1 go (by rw [hv]; simp [Value.ownBlock])
      subst hv
      obtain ⟨hx0, hf0⟩ := Kd.R_celln 0 R0 (jx : Int) (by omega) hju
      rw [Int.toNat_natCast] at hx0 hf0
      have M12 := Aside0.mk (show Mem w _ (Hold.box gw #[.int .i64 (jx : Int), .func (.func fx) #[] #[]] 153 :: [Hold.val (Kd.slice 153 kWant) lo2 hi4 W [.slice (some wa) W.length LC], Hold.box gn #[.int .i64 n.kind, .int .i64 n.a, .int .i64 n.b, .int .i64 n.c, .slice pA4 n.list.length pc4, .slice pA5 n.names.length pc5, .int .u64 n.num, .int .i64 n.at_] 142, Hold.val (Kd.slice 3 (Kd.int .i64)) lo hi (bump up (jx : Int)) [.slice (some ⟨go, 0, none⟩) up.length co]]) from Mem.mark (A := [_, _, _]) M11.out (below_set M11.out.below (Nat.le_trans (M11.out.fits _ (.tail _ (.tail _ (.tail _ (.head _))))).1 gb)) (Kept.setCell (Kept.refl _ _) (.inl hg) _) ⟨_, rfl, (Kd.R_putg R0 (jx : Int) (wrap64 (rd up (jx : Int) + 1))).1⟩)
      clear R0 gb gl HG hg
      go_wp2
      go_roundw
      case measure => simp [intOf]; omega
      case rel => exact ⟨p + 1, bump up (jx : Int), by go_num, by omega, ⟨by rw [bump_len]; exact HUP.out⟩, ⟨fun k hk => by rcases Nat.lt_succ_iff_lt_or_eq.1 hk with h | h; exact HWB.out k h; rw [h, HV.out]; exact HKX.out⟩, ⟨by rw [List.take_succ_eq_append_getElem hpt, List.map_append, bumps_app, ← HPE.out, ← el_lt zWant hpt, HV.out]; rfl⟩, ⟨M12.out.drop⟩⟩
    have hpl : ¬ (p : Int) < (W.length : Int) := by omega
    obtain rfl : p = W.length := by omega
    have HALL := Aside0.mk (show (wantsAll n).all (wantB t j) = true by rw [← HWW.out, List.all_eq_true]; intro y hy; obtain ⟨k, hk, rfl⟩ := List.getElem_of_mem hy; rw [← el_lt zWant hk]; exact HWB.out k hk)
    have HUE := Aside0.mk (show up = usedTo t (j + 1) by rw [HSUC.out, kids_wants, ← HE.out, ← HWW.out, HPE.out, List.take_length])
    clear HWB HPE hpt hp
    go_wp2
    go_roundw
    case measure => simp [intOf]; omega
    case rel => exact ⟨j + 1, up, by go_num, by omega, HUP, ⟨fun k hk => by rcases Nat.lt_succ_iff_lt_or_eq.1 hk with h | h; exact HN.out k h; rw [h, ← HNN.out, ← HS.out, node_all HO.out HNB.out HAT.out HSH.out]; exact HALL.out⟩, HUE, ⟨M9.out.drop.drop⟩⟩
  have hjl : j = t.length := by omega
  subst hjl
  have HA := Aside0.mk (show (List.range t.length).all (fun i => nodeB t i (el zNode t i)) = true from by rw [List.all_eq_true]; intro q hq; exact HN.out q (List.mem_range.1 hq))
  clear HN hlt hj
  have R0 := M2.out.row (.head _)
  obtain ⟨go, co, hv, gb, gl, cl, HG⟩ := Kd.R_form R0 (by have := HUJ.out; have := HM.out; omega)
  subst hv
  clear gb gl HG
  have hs1 : 1 ≤ (t.length : Int) ∧ (t.length : Int) - 1 ≤ (co : Int) := by
    have h1 := (Kd.R_reads' R0).2.1
    have h2 := HUJ.out
    have h3 := HM.out
    omega
  clear R0
  go_wp2_with fail
  go_loopw [144] (fun v wr => ∃ (k : Nat), v = .int .i64 k ∧ k ≤ m ∧ Aside0 (∀ q : Nat, q < k → el 0 uj q = 1) ∧ Aside0 (Mem w wr [Hold.val (Kd.slice 3 (Kd.int .i64)) lo hi uj [.slice (some ⟨go, 0, none⟩) uj.length co]])) (fun v _ => m - (intOf v).toNat)
  case atStart => exact ⟨0, rfl, by omega, ⟨fun q hq => by omega⟩, M2⟩
  case round =>
  clear M2
  obtain ⟨k, rfl, hk, HN, M2⟩ := hrel
  by_cases hlt : k < m
  · have g1 : (k : Int) < (t.length : Int) - 1 := by have := HM.out; omega
    have g2 : k < t.length - 1 := by have := HM.out; omega
    have g3 : (k : Int) < ((t.length - 1 : Nat) : Int) := by have := HM.out; omega
    have g4 : (k : Int) < (((t.length : Int) - 1).toNat : Int) := by have := HM.out; omega
    have hju : (k : Int) < (uj.length : Int) := by have := HUJ.out; omega
    obtain ⟨hx0, hf0⟩ := Kd.R_celln 0 (M2.out.row (.head _)) (k : Int) (by omega) hju
    rw [Int.toNat_natCast, rdOf_el] at hx0
    clear hf0
    rcases Bool.eq_false_or_eq_true (el 0 uj k == 1) with hb | hb
    · have hbb : (el 0 uj k != 1) = false := by simp [bne, hb]
      have HB := Aside0.mk (show el 0 uj k = 1 by simpa using hb); clear hb
      go_wp2
      go_roundw
      case measure => simp [intOf]; omega
      case rel => exact ⟨k + 1, by go_num, by omega, ⟨fun q hq => by rcases Nat.lt_succ_iff_lt_or_eq.1 hq with h | h; exact HN.out q h; rw [h]; exact HB.out⟩, M2⟩
    · have hbb : (el 0 uj k != 1) = true := by simp [bne, hb]
      have HR := Aside0.mk (show treeB t = false by
        unfold treeB
        rw [show (List.range (t.length - 1)).all (fun j => el 0 (usedTo t t.length) j == 1) = false from by rw [List.all_eq_false]; exact ⟨k, List.mem_range.2 (by have := HM.out; omega), by rw [← HE.out, hb]; decide⟩]
        simp)
      clear hb
      go_wp2
      go_ret
      exact ⟨by rw [HR.out]; rfl, M2.out.below⟩
  have g1 : ¬ (k : Int) < (t.length : Int) - 1 := by have := HM.out; omega
  have g2 : ¬ k < t.length - 1 := by have := HM.out; omega
  have g3 : ¬ (k : Int) < ((t.length - 1 : Nat) : Int) := by have := HM.out; omega
  have g4 : ¬ (k : Int) < (((t.length : Int) - 1).toNat : Int) := by have := HM.out; omega
  have HR := Aside0.mk (show treeB t = true by
    unfold treeB
    rw [HIN.out, HK.out, HK29.out, HA.out, show (List.range (t.length - 1)).all (fun j => el 0 (usedTo t t.length) j == 1) = true from by rw [List.all_eq_true]; intro q hq; rw [← HE.out]; have := HN.out q (by have := List.mem_range.1 hq; have := HM.out; omega); simp [this]]
    rfl)
  go_wp2
  go_ret
  exact ⟨by rw [HR.out]; rfl, M2.out.below⟩
end Go.Proofs.Ytlhfhfamifmijaa.LeafN
end
