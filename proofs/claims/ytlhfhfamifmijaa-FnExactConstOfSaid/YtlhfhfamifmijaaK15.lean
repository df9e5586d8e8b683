/- Part 15 of the proof: general lemmas, contracts of functions, walks. No condition of its own. -/
import Derived.Deep.DeepCutAuto
import Derived.Test.YtlhfhfamifmijaaK14
section
namespace Go.Proofs.Ytlhfhfamifmijaa.LeafN
open Go.RowKit Go.Proofs.YtlhfhfamifmijaaW.PrintWords Go.Proofs.YtlhfhfamifmijaaW.PrintMore Go.Proofs.Ytlhfhfamifmijaa.Law Go.Proofs.Ytlhfhfamifmijaa.Num Go.Proofs.Ytlhfhfamifmijaa
set_option linter.unusedVariables false
set_option linter.unusedSimpArgs false
set_option autoImplicit false
theorem node_open {w : World} {n : Node} {A4 A5 : Option Addr} {c4 c5 l4 l5 : Nat} {k a b c x y : Int} (h : kNodeI.K w n [.int .i64 k, .int .i64 a, .int .i64 b, .int .i64 c, .slice A4 l4 c4, .slice A5 l5 c5, .int .u64 x, .int .i64 y]) : n.list.length ≤ c4 ∧ (Kd.int .i64).C w A4 n.list.length n.list ∧ n.names.length ≤ c5 ∧ Kd.string.C w A5 n.names.length n.names := by
  obtain ⟨qA4, qc4, qA5, qc5, he, h4, g4, h5, g5⟩ := kNodeI_open h
  simp only [List.cons.injEq, Value.slice.injEq, and_true] at he
  obtain ⟨_, _, _, _, ⟨rfl, _, rfl⟩, ⟨rfl, _, rfl⟩, _, _⟩ := he
  exact ⟨h4, g4, h5, g5⟩
set_option maxHeartbeats 16000000 in
set_option maxRecDepth 100000 in
theorem cNode (A : Option Addr) (c : Nat) (t : List Node) (i : Nat) (v1 : Value) (u : List Int) (w0 w : World) (lo hi : Nat) (H : List Hold) (hM : Mem w0 w (Hold.val (Kd.slice 3 (Kd.int .i64)) lo hi u [v1] :: H)) (hT : kNodeI.C w0 A t.length t) (hi2 : i < t.length) (hlen : t.length ≤ 1048576) (hu : u.length = t.length) (hnum : 0 ≤ (el zNode t i).num ∧ (el zNode t i).num < 18446744073709551616) :
    Calls Try.prog 105 #[.slice A t.length c, .int .i64 i, v1] w fun e w' => e = .returned (.bool (nodeB t i (el zNode t i))) ∧ ∃ u', Mem w0 w' (Hold.val (Kd.slice 3 (Kd.int .i64)) lo hi u' [v1] :: H) ∧ u'.length = t.length ∧ (nodeB t i (el zNode t i) = true → u' = bumps u (kids (el zNode t i))) := by
  obtain ⟨pa, pA4, pc4, pA5, pc5, rfl, pK, px0, px1, px2, px3, px4, px5, px6, px7⟩ := NodeI_at hT i hi2
  obtain ⟨h4, g4, h5, g5⟩ := node_open pK
  clear pK
  replace px0 := pw_cell_below hM.below px0; replace px1 := pw_cell_below hM.below px1; replace px2 := pw_cell_below hM.below px2; replace px3 := pw_cell_below hM.below px3; replace px4 := pw_cell_below hM.below px4; replace px5 := pw_cell_below hM.below px5; replace px6 := pw_cell_below hM.below px6; replace px7 := pw_cell_below hM.below px7
  obtain ⟨n, hn⟩ : ∃ n, n = el zNode t i := ⟨_, rfl⟩
  rw [← hn] at px0 px1 px2 px3 px4 px5 px6 px7 h4 g4 h5 g5 hnum ⊢
  have HT := Aside0.mk hT; have HU := Aside0.mk hu; have HNUM := Aside0.mk hnum; have G4 := Aside0.mk g4; have G5 := Aside0.mk g5; have HNN := Aside0.mk hn
  have UI := Aside0.mk (use_in n.kind)
  have hl4 : n.list.length ≤ 9223372036854775807 := g4.2.1
  have hl5 : n.names.length ≤ 9223372036854775807 := g5.2.1
  clear hT hu hnum g4 g5 h4 h5 hn
  have hun := Try.underlying142; have huu := Try.underlying202; have hup := Try.underlying206
  have M0 := Aside0.mk (hM.allocAt rfl #[.int .i64 n.kind, .int .i64 n.a, .int .i64 n.b, .int .i64 n.c, .slice pA4 n.list.length pc4, .slice pA5 n.names.length pc5, .int .u64 n.num, .int .i64 n.at_] 142); clear hM
  go_enter Try.func105, Try.ntmps105
  have z0 := M0.out.box (.head _)
  go_wp2_with fail
  clear px0 px1 px2 px3 px4 px5 px6 px7
  refine (cUse _ _).mono ?_; rintro e w1 ⟨rfl, hb⟩
  have M1 := Aside0.mk ((M0.out.step hb).allocAt rfl #[.int .i64 (useOf n.kind).a, .int .i64 (useOf n.kind).b, .int .i64 (useOf n.kind).c, .int .i64 (useOf n.kind).list, .int .i64 (useOf n.kind).names, .bool (useOf n.kind).num] 202); clear M0 hb z0
  have zu := M1.out.box (.head _); have zn := M1.out.box (.tail _ (.head _))
  go_upto_region 3 with fail
  obtain ⟨gu, hgu⟩ : ∃ g, g = w1.heap.size := ⟨_, rfl⟩; rw [← hgu] at M1 zu ⊢; clear hgu
  clear zu zn; have zu := M1.out.box (.head _); have zn := M1.out.box (.tail _ (.head _))
  go_cut [40] (fun v wx => v = .bool (!kindB n) ∧ Aside0 (Mem w0 wx (Hold.box gu #[.int .i64 (useOf n.kind).a, .int .i64 (useOf n.kind).b, .int .i64 (useOf n.kind).c, .int .i64 (useOf n.kind).list, .int .i64 (useOf n.kind).names, .bool (useOf n.kind).num] 202 :: Hold.box w.heap.size #[.int .i64 n.kind, .int .i64 n.a, .int .i64 n.b, .int .i64 n.c, .slice pA4 n.list.length pc4, .slice pA5 n.names.length pc5, .int .u64 n.num, .int .i64 n.at_] 142 :: Hold.val (Kd.slice 3 (Kd.int .i64)) lo hi u [v1] :: H)))
  case first =>
    rcases Bool.eq_false_or_eq_true (exprB n.kind) with he | he
    · have E1 := Aside0.mk he
      rcases Bool.eq_false_or_eq_true (inB n.at_ 0 600) with ha | ha
      · have EA := Aside0.mk ha
        · have KB := Aside0.mk (show kindB n = true by simp [kindB, he, ha])
          clear he ha
          as_aux_lemma =>
            go_wp2_with fail
            refine (cExpr _ _).mono ?_; rintro e w2 ⟨rfl, ⟨⟨n2, rfl⟩⟩⟩; rw [E1.out]
            go_wp2_with fail
            refine (cIn _ _ _ _).mono ?_; rintro e w3 ⟨rfl, ⟨⟨n3, rfl⟩⟩⟩; rw [EA.out]
            go_wp2_with fail
            go_meet
            exact ⟨by rw [KB.out]; rfl, ⟨M1.out.draw _⟩⟩
      · have EA := Aside0.mk ha
        · have KB := Aside0.mk (show kindB n = false by simp [kindB, he, ha])
          clear he ha
          as_aux_lemma =>
            go_wp2_with fail
            refine (cExpr _ _).mono ?_; rintro e w4 ⟨rfl, ⟨⟨n4, rfl⟩⟩⟩; rw [E1.out]
            go_wp2_with fail
            refine (cIn _ _ _ _).mono ?_; rintro e w5 ⟨rfl, ⟨⟨n5, rfl⟩⟩⟩; rw [EA.out]
            go_wp2_with fail
            go_meet
            exact ⟨by rw [KB.out]; rfl, ⟨M1.out.draw _⟩⟩
    have E1 := Aside0.mk he
    rcases Bool.eq_false_or_eq_true (stmtB n.kind) with hs | hs
    · have E2 := Aside0.mk hs
      rcases Bool.eq_false_or_eq_true (inB n.at_ 0 600) with ha | ha
      · have EA := Aside0.mk ha
        · have KB := Aside0.mk (show kindB n = true by simp [kindB, he, hs, ha])
          clear he hs ha
          as_aux_lemma =>
            go_wp2_with fail
            refine (cExpr _ _).mono ?_; rintro e w6 ⟨rfl, ⟨⟨n6, rfl⟩⟩⟩; rw [E1.out]
            go_wp2_with fail
            refine (cStmt _ _).mono ?_; rintro e w7 ⟨rfl, ⟨⟨n7, rfl⟩⟩⟩; rw [E2.out]
            go_wp2_with fail
            refine (cIn _ _ _ _).mono ?_; rintro e w8 ⟨rfl, ⟨⟨n8, rfl⟩⟩⟩; rw [EA.out]
            go_wp2_with fail
            go_meet
            exact ⟨by rw [KB.out]; rfl, ⟨M1.out.draw _⟩⟩
      · have EA := Aside0.mk ha
        · have KB := Aside0.mk (show kindB n = false by simp [kindB, he, hs, ha])
          clear he hs ha
          as_aux_lemma =>
            go_wp2_with fail
            refine (cExpr _ _).mono ?_; rintro e w9 ⟨rfl, ⟨⟨n9, rfl⟩⟩⟩; rw [E1.out]
            go_wp2_with fail
            refine (cStmt _ _).mono ?_; rintro e w10 ⟨rfl, ⟨⟨n10, rfl⟩⟩⟩; rw [E2.out]
            go_wp2_with fail
            refine (cIn _ _ _ _).mono ?_; rintro e w11 ⟨rfl, ⟨⟨n11, rfl⟩⟩⟩; rw [EA.out]
            go_wp2_with fail
            go_meet
            exact ⟨by rw [KB.out]; rfl, ⟨M1.out.draw _⟩⟩
    have E2 := Aside0.mk hs
    rcases Bool.eq_false_or_eq_true (n.kind == 29) with h29 | h29
    · have q29 : (n.kind != 29) = false := by simp [bne, h29]
      have q29b := Aside0.mk h29
      rcases Bool.eq_false_or_eq_true (inB n.at_ 0 600) with ha | ha
      · have EA := Aside0.mk ha
        · have KB := Aside0.mk (show kindB n = true by simp [kindB, he, hs, h29, ha])
          clear he hs h29 ha
          as_aux_lemma =>
            go_wp2_with fail
            refine (cExpr _ _).mono ?_; rintro e w12 ⟨rfl, ⟨⟨n12, rfl⟩⟩⟩; rw [E1.out]
            go_wp2_with fail
            refine (cStmt _ _).mono ?_; rintro e w13 ⟨rfl, ⟨⟨n13, rfl⟩⟩⟩; rw [E2.out]
            go_wp2_with fail
            refine (cIn _ _ _ _).mono ?_; rintro e w14 ⟨rfl, ⟨⟨n14, rfl⟩⟩⟩; rw [EA.out]
            go_wp2_with fail
            go_meet
            exact ⟨by rw [KB.out]; rfl, ⟨M1.out.draw _⟩⟩
      · have EA := Aside0.mk ha
        · have KB := Aside0.mk (show kindB n = false by simp [kindB, he, hs, h29, ha])
          clear he hs h29 ha
          as_aux_lemma =>
            go_wp2_with fail
            refine (cExpr _ _).mono ?_; rintro e w15 ⟨rfl, ⟨⟨n15, rfl⟩⟩⟩; rw [E1.out]
            go_wp2_with fail
            refine (cStmt _ _).mono ?_; rintro e w16 ⟨rfl, ⟨⟨n16, rfl⟩⟩⟩; rw [E2.out]
            go_wp2_with fail
            refine (cIn _ _ _ _).mono ?_; rintro e w17 ⟨rfl, ⟨⟨n17, rfl⟩⟩⟩; rw [EA.out]
            go_wp2_with fail
            go_meet
            exact ⟨by rw [KB.out]; rfl, ⟨M1.out.draw _⟩⟩
    have q29 : (n.kind != 29) = true := by simp [bne, h29]
    · have KB := Aside0.mk (show kindB n = false by simp [kindB, he, hs, h29])
      clear he hs h29
      as_aux_lemma =>
        go_wp2_with fail
        refine (cExpr _ _).mono ?_; rintro e w18 ⟨rfl, ⟨⟨n18, rfl⟩⟩⟩; rw [E1.out]
        go_wp2_with fail
        refine (cStmt _ _).mono ?_; rintro e w19 ⟨rfl, ⟨⟨n19, rfl⟩⟩⟩; rw [E2.out]
        go_wp2_with fail
        go_meet
        exact ⟨by rw [KB.out]; rfl, ⟨M1.out.draw _⟩⟩
  case rest =>
  clear zu zn M1
  obtain ⟨rfl, M2⟩ := hcut
  have zu := M2.out.box (.head _); have zn := M2.out.box (.tail _ (.head _))
  by_cases hk : kindB n = true
  rotate_left
  · replace hk : kindB n = false := by simpa using hk
    rw [show (!kindB n) = true by rw [hk]; rfl]
    have C1 := Aside0.mk hk; clear hk
    as_aux_lemma =>
      go_wp2
      go_ret
      exact ⟨by rw [show nodeB t i n = false from by simp [nodeB, C1.out]]; rfl, u, M2.out.drop.drop, HU.out, fun h => by rw [show nodeB t i n = false from by simp [nodeB, C1.out]] at h; exact absurd h (by decide)⟩
  rw [show (!kindB n) = false by rw [hk]; rfl]
  have C1 := Aside0.mk hk; clear hk
  go_upto_region 5 with fail
  go_cut [71] (fun v wx => ∃ u', v = .bool (!partsB t i n (useOf n.kind)) ∧ u'.length = t.length ∧ Aside0 (partsB t i n (useOf n.kind) = true → u' = bumps u (pk (useOf n.kind).a n.a ++ (pk (useOf n.kind).b n.b ++ pk (useOf n.kind).c n.c))) ∧ Aside0 (Mem w0 wx (Hold.box gu #[.int .i64 (useOf n.kind).a, .int .i64 (useOf n.kind).b, .int .i64 (useOf n.kind).c, .int .i64 (useOf n.kind).list, .int .i64 (useOf n.kind).names, .bool (useOf n.kind).num] 202 :: Hold.box w.heap.size #[.int .i64 n.kind, .int .i64 n.a, .int .i64 n.b, .int .i64 n.c, .slice pA4 n.list.length pc4, .slice pA5 n.names.length pc5, .int .u64 n.num, .int .i64 n.at_] 142 :: Hold.val (Kd.slice 3 (Kd.int .i64)) lo hi u' [v1] :: H)))
  case first =>
    go_wp2_with fail
    clear zu zn
    refine (cPart (some pa) c t i n.a (useOf n.kind).a v1 u w0 _ lo (fun k => lo ≤ k ∧ k < hi) M2.out.below (M2.out.fits _ (.tail _ (.tail _ (.head _)))).1 (M2.out.row (.tail _ (.tail _ (.head _)))) HT.out (by omega) hlen HU.out UI.out.1).mono ?_
    rintro e w30 ⟨rfl, u30, hr, hu30, hp, hb, hkk⟩
    have HP30 := Aside0.mk hp; have HU30 := Aside0.mk hu30; have P30 := Aside0.mk (show Mem w0 _ (Hold.box gu #[.int .i64 (useOf n.kind).a, .int .i64 (useOf n.kind).b, .int .i64 (useOf n.kind).c, .int .i64 (useOf n.kind).list, .int .i64 (useOf n.kind).names, .bool (useOf n.kind).num] 202 :: Hold.box w.heap.size #[.int .i64 n.kind, .int .i64 n.a, .int .i64 n.b, .int .i64 n.c, .slice pA4 n.list.length pc4, .slice pA5 n.names.length pc5, .int .u64 n.num, .int .i64 n.at_] 142 :: Hold.val (Kd.slice 3 (Kd.int .i64)) lo hi u30 [v1] :: H) from Mem.mark (A := [_, _]) M2.out hb hkk ⟨_, rfl, hr⟩); clear hr hu30 hp hb hkk
    have zu := P30.out.box (.head _); have zn := P30.out.box (.tail _ (.head _))
    by_cases ha : partB t i n.a (useOf n.kind).a = true
    rotate_left
    · replace ha : partB t i n.a (useOf n.kind).a = false := by simpa using ha
      rw [ha]
      as_aux_lemma =>
        go_wp2_with fail
        go_meet
        exact ⟨_, by rw [show partsB t i n (useOf n.kind) = false by simp [partsB, *]]; rfl, HU30.out, ⟨fun h => absurd h (by rw [show partsB t i n (useOf n.kind) = false by simp [partsB, *]]; decide)⟩, P30⟩
    rw [ha]; have EA := Aside0.mk ha; clear ha
    go_wp2_with fail
    clear zu zn
    refine (cPart (some pa) c t i n.b (useOf n.kind).b v1 u30 w0 _ lo (fun k => lo ≤ k ∧ k < hi) P30.out.below (P30.out.fits _ (.tail _ (.tail _ (.head _)))).1 (P30.out.row (.tail _ (.tail _ (.head _)))) HT.out (by omega) hlen HU30.out UI.out.2.1).mono ?_
    rintro e w31 ⟨rfl, u31, hr, hu31, hp, hb, hkk⟩
    have HP31 := Aside0.mk hp; have HU31 := Aside0.mk hu31; have P31 := Aside0.mk (show Mem w0 _ (Hold.box gu #[.int .i64 (useOf n.kind).a, .int .i64 (useOf n.kind).b, .int .i64 (useOf n.kind).c, .int .i64 (useOf n.kind).list, .int .i64 (useOf n.kind).names, .bool (useOf n.kind).num] 202 :: Hold.box w.heap.size #[.int .i64 n.kind, .int .i64 n.a, .int .i64 n.b, .int .i64 n.c, .slice pA4 n.list.length pc4, .slice pA5 n.names.length pc5, .int .u64 n.num, .int .i64 n.at_] 142 :: Hold.val (Kd.slice 3 (Kd.int .i64)) lo hi u31 [v1] :: H) from Mem.mark (A := [_, _]) P30.out hb hkk ⟨_, rfl, hr⟩); clear hr hu31 hp hb hkk
    have zu := P31.out.box (.head _); have zn := P31.out.box (.tail _ (.head _))
    by_cases hb : partB t i n.b (useOf n.kind).b = true
    rotate_left
    · replace hb : partB t i n.b (useOf n.kind).b = false := by simpa using hb
      rw [hb]
      as_aux_lemma =>
        go_wp2_with fail
        go_meet
        exact ⟨_, by rw [show partsB t i n (useOf n.kind) = false by simp [partsB, *]]; rfl, HU31.out, ⟨fun h => absurd h (by rw [show partsB t i n (useOf n.kind) = false by simp [partsB, *]]; decide)⟩, P31⟩
    rw [hb]; have EB := Aside0.mk hb; clear hb
    go_wp2_with fail
    clear zu zn
    refine (cPart (some pa) c t i n.c (useOf n.kind).c v1 u31 w0 _ lo (fun k => lo ≤ k ∧ k < hi) P31.out.below (P31.out.fits _ (.tail _ (.tail _ (.head _)))).1 (P31.out.row (.tail _ (.tail _ (.head _)))) HT.out (by omega) hlen HU31.out UI.out.2.2).mono ?_
    rintro e w32 ⟨rfl, u32, hr, hu32, hp, hb, hkk⟩
    have HP32 := Aside0.mk hp; have HU32 := Aside0.mk hu32; have P32 := Aside0.mk (show Mem w0 _ (Hold.box gu #[.int .i64 (useOf n.kind).a, .int .i64 (useOf n.kind).b, .int .i64 (useOf n.kind).c, .int .i64 (useOf n.kind).list, .int .i64 (useOf n.kind).names, .bool (useOf n.kind).num] 202 :: Hold.box w.heap.size #[.int .i64 n.kind, .int .i64 n.a, .int .i64 n.b, .int .i64 n.c, .slice pA4 n.list.length pc4, .slice pA5 n.names.length pc5, .int .u64 n.num, .int .i64 n.at_] 142 :: Hold.val (Kd.slice 3 (Kd.int .i64)) lo hi u32 [v1] :: H) from Mem.mark (A := [_, _]) P31.out hb hkk ⟨_, rfl, hr⟩); clear hr hu32 hp hb hkk
    have zu := P32.out.box (.head _); have zn := P32.out.box (.tail _ (.head _))
    by_cases hc : partB t i n.c (useOf n.kind).c = true
    rotate_left
    · replace hc : partB t i n.c (useOf n.kind).c = false := by simpa using hc
      rw [hc]
      as_aux_lemma =>
        go_wp2_with fail
        go_meet
        exact ⟨_, by rw [show partsB t i n (useOf n.kind) = false by simp [partsB, *]]; rfl, HU32.out, ⟨fun h => absurd h (by rw [show partsB t i n (useOf n.kind) = false by simp [partsB, *]]; decide)⟩, P32⟩
    rw [hc]; have EC := Aside0.mk hc; clear hc
    as_aux_lemma =>
      go_wp2_with fail
      go_meet
      exact ⟨_, by rw [show partsB t i n (useOf n.kind) = true by simp [partsB, EA.out, EB.out, EC.out]]; rfl, HU32.out, ⟨fun _ => by rw [HP32.out EC.out, HP31.out EB.out, HP30.out EA.out, bumps_app, bumps_app]⟩, P32⟩
  case rest =>
  clear zu zn M2
  obtain ⟨u2, rfl, hu2, B2, M3⟩ := hcut
  have HU2 := Aside0.mk hu2; clear hu2
  have zu := M3.out.box (.head _); have zn := M3.out.box (.tail _ (.head _))
  by_cases hk : partsB t i n (useOf n.kind) = true
  rotate_left
  · replace hk : partsB t i n (useOf n.kind) = false := by simpa using hk
    rw [show (!partsB t i n (useOf n.kind)) = true by rw [hk]; rfl]
    have C2 := Aside0.mk hk; clear hk
    as_aux_lemma =>
      go_wp2
      go_ret
      exact ⟨by rw [show nodeB t i n = false from by simp [nodeB, C1.out, C2.out]]; rfl, u2, M3.out.drop.drop, HU2.out, fun h => by rw [show nodeB t i n = false from by simp [nodeB, C1.out, C2.out]] at h; exact absurd h (by decide)⟩
  rw [show (!partsB t i n (useOf n.kind)) = false by rw [hk]; rfl]
  have C2 := Aside0.mk hk; clear hk
  go_upto_region 7 with fail
  go_cut [120] (fun v wx => v = .bool (!shapeB n (useOf n.kind)) ∧ Aside0 (Mem w0 wx (Hold.box gu #[.int .i64 (useOf n.kind).a, .int .i64 (useOf n.kind).b, .int .i64 (useOf n.kind).c, .int .i64 (useOf n.kind).list, .int .i64 (useOf n.kind).names, .bool (useOf n.kind).num] 202 :: Hold.box w.heap.size #[.int .i64 n.kind, .int .i64 n.a, .int .i64 n.b, .int .i64 n.c, .slice pA4 n.list.length pc4, .slice pA5 n.names.length pc5, .int .u64 n.num, .int .i64 n.at_] 142 :: Hold.val (Kd.slice 3 (Kd.int .i64)) lo hi u2 [v1] :: H)))
  case first =>
    have NM := Aside0.mk (use_names n.kind)
    rcases use_shape n.kind with ⟨qL0, qL1, qN, qnum⟩ | ⟨qL0, qL1, qN, qnum⟩ | ⟨qL0, qL1, qN, qnum⟩ | ⟨qL0, qL1, qN, qnum⟩ | ⟨qL0, qL1, qN, qnum⟩
    · skip
      rcases Bool.eq_false_or_eq_true (decide ((0 : Int) < (n.list.length : Int))) with qlen0 | qlen0
      · skip
        have alen0 : decide (0 < n.list.length) = true := by have h := of_decide_eq_true qlen0; exact decide_eq_true (by omega)
        have plen0 : (0 : Int) < (n.list.length : Int) := of_decide_eq_true qlen0
        · as_aux_lemma =>
            go_wp2_with fail
            go_meet
            exact ⟨by rw [show shapeB n (useOf n.kind) = false from by simp only [shapeB, qL0, qL1, qN, qnum, qlen0, Bool.false_and, Bool.true_and, Bool.or_true, Bool.true_or, Bool.false_or, Bool.or_false, Bool.and_true, Bool.and_false, Bool.not_true, Bool.not_false]]; first | rfl | (simp only [*]; rfl) | simp [*], M3⟩
      · skip
        have alen0 : decide (0 < n.list.length) = false := by have h := of_decide_eq_false qlen0; exact decide_eq_false (by omega)
        have plen0 : ¬ (0 : Int) < (n.list.length : Int) := of_decide_eq_false qlen0
        have qlen6 : decide ((6 : Int) < (n.list.length : Int)) = false := by have := of_decide_eq_false qlen0; exact decide_eq_false (by omega)
        have alen6 : decide (6 < n.list.length) = false := by have h := of_decide_eq_false qlen6; exact decide_eq_false (by omega)
        have plen6 : ¬ (6 : Int) < (n.list.length : Int) := of_decide_eq_false qlen6
        rcases Bool.eq_false_or_eq_true ((n.names.length : Int) != (useOf n.kind).names) with qNe | qNe
        · skip
          · as_aux_lemma =>
              go_wp2_with fail
              go_meet
              exact ⟨by rw [show shapeB n (useOf n.kind) = false from by simp only [shapeB, qL0, qL1, qN, qnum, qlen0, qlen6, qNe, Bool.false_and, Bool.true_and, Bool.or_true, Bool.true_or, Bool.false_or, Bool.or_false, Bool.and_true, Bool.and_false, Bool.not_true, Bool.not_false]]; first | rfl | (simp only [*]; rfl) | simp [*], M3⟩
        · skip
          have qN4 : decide ((4 : Int) < (n.names.length : Int)) = false := by have h := qNe; simp only [bne_eq_false_iff_eq] at h; exact decide_eq_false (by have := NM.out; omega)
          have qN4b : decide ((4 : Int) < (useOf n.kind).names) = false := decide_eq_false (by have := NM.out; omega)
          have aN4 : decide (4 < n.names.length) = false := by have h := of_decide_eq_false qN4; exact decide_eq_false (by omega)
          have pN4 : ¬ (4 : Int) < (n.names.length : Int) := of_decide_eq_false qN4
          · as_aux_lemma =>
              go_wp2_with fail
              go_meet
              exact ⟨by rw [show shapeB n (useOf n.kind) = true from by simp only [shapeB, qL0, qL1, qN, qnum, qlen0, qlen6, qNe, qN4, Bool.false_and, Bool.true_and, Bool.or_true, Bool.true_or, Bool.false_or, Bool.or_false, Bool.and_true, Bool.and_false, Bool.not_true, Bool.not_false]]; first | rfl | (simp only [*]; rfl) | simp [*], M3⟩
    · skip
      rcases Bool.eq_false_or_eq_true (decide ((0 : Int) < (n.list.length : Int))) with qlen0 | qlen0
      · skip
        have alen0 : decide (0 < n.list.length) = true := by have h := of_decide_eq_true qlen0; exact decide_eq_true (by omega)
        have plen0 : (0 : Int) < (n.list.length : Int) := of_decide_eq_true qlen0
        · as_aux_lemma =>
            go_wp2_with fail
            go_meet
            exact ⟨by rw [show shapeB n (useOf n.kind) = false from by simp only [shapeB, qL0, qL1, qN, qnum, qlen0, Bool.false_and, Bool.true_and, Bool.or_true, Bool.true_or, Bool.false_or, Bool.or_false, Bool.and_true, Bool.and_false, Bool.not_true, Bool.not_false]]; first | rfl | (simp only [*]; rfl) | simp [*], M3⟩
      · skip
        have alen0 : decide (0 < n.list.length) = false := by have h := of_decide_eq_false qlen0; exact decide_eq_false (by omega)
        have plen0 : ¬ (0 : Int) < (n.list.length : Int) := of_decide_eq_false qlen0
        have qlen6 : decide ((6 : Int) < (n.list.length : Int)) = false := by have := of_decide_eq_false qlen0; exact decide_eq_false (by omega)
        have alen6 : decide (6 < n.list.length) = false := by have h := of_decide_eq_false qlen6; exact decide_eq_false (by omega)
        have plen6 : ¬ (6 : Int) < (n.list.length : Int) := of_decide_eq_false qlen6
        rcases Bool.eq_false_or_eq_true ((n.names.length : Int) != (useOf n.kind).names) with qNe | qNe
        · skip
          · as_aux_lemma =>
              go_wp2_with fail
              go_meet
              exact ⟨by rw [show shapeB n (useOf n.kind) = false from by simp only [shapeB, qL0, qL1, qN, qnum, qlen0, qlen6, qNe, Bool.false_and, Bool.true_and, Bool.or_true, Bool.true_or, Bool.false_or, Bool.or_false, Bool.and_true, Bool.and_false, Bool.not_true, Bool.not_false]]; first | rfl | (simp only [*]; rfl) | simp [*], M3⟩
        · skip
          have qN4 : decide ((4 : Int) < (n.names.length : Int)) = false := by have h := qNe; simp only [bne_eq_false_iff_eq] at h; exact decide_eq_false (by have := NM.out; omega)
          have qN4b : decide ((4 : Int) < (useOf n.kind).names) = false := decide_eq_false (by have := NM.out; omega)
          have aN4 : decide (4 < n.names.length) = false := by have h := of_decide_eq_false qN4; exact decide_eq_false (by omega)
          have pN4 : ¬ (4 : Int) < (n.names.length : Int) := of_decide_eq_false qN4
          rcases Bool.eq_false_or_eq_true (n.num != 0) with qnz | qnz
          · skip
            · as_aux_lemma =>
                go_wp2_with fail
                go_meet
                exact ⟨by rw [show shapeB n (useOf n.kind) = false from by simp only [shapeB, qL0, qL1, qN, qnum, qlen0, qlen6, qNe, qN4, qnz, Bool.false_and, Bool.true_and, Bool.or_true, Bool.true_or, Bool.false_or, Bool.or_false, Bool.and_true, Bool.and_false, Bool.not_true, Bool.not_false]]; first | rfl | (simp only [*]; rfl) | simp [*], M3⟩
          · skip
            · as_aux_lemma =>
                go_wp2_with fail
                go_meet
                exact ⟨by rw [show shapeB n (useOf n.kind) = true from by simp only [shapeB, qL0, qL1, qN, qnum, qlen0, qlen6, qNe, qN4, qnz, Bool.false_and, Bool.true_and, Bool.or_true, Bool.true_or, Bool.false_or, Bool.or_false, Bool.and_true, Bool.and_false, Bool.not_true, Bool.not_false]]; first | rfl | (simp only [*]; rfl) | simp [*], M3⟩
    · skip
      rcases Bool.eq_false_or_eq_true ((n.names.length : Int) != (useOf n.kind).names) with qNe | qNe
      · skip
        · as_aux_lemma =>
            go_wp2_with fail
            go_meet
            exact ⟨by rw [show shapeB n (useOf n.kind) = false from by simp only [shapeB, qL0, qL1, qN, qnum, qNe, Bool.false_and, Bool.true_and, Bool.or_true, Bool.true_or, Bool.false_or, Bool.or_false, Bool.and_true, Bool.and_false, Bool.not_true, Bool.not_false]]; first | rfl | (simp only [*]; rfl) | simp [*], M3⟩
      · skip
        have qN4 : decide ((4 : Int) < (n.names.length : Int)) = false := by have h := qNe; simp only [bne_eq_false_iff_eq] at h; exact decide_eq_false (by have := NM.out; omega)
        have qN4b : decide ((4 : Int) < (useOf n.kind).names) = false := decide_eq_false (by have := NM.out; omega)
        have aN4 : decide (4 < n.names.length) = false := by have h := of_decide_eq_false qN4; exact decide_eq_false (by omega)
        have pN4 : ¬ (4 : Int) < (n.names.length : Int) := of_decide_eq_false qN4
        rcases Bool.eq_false_or_eq_true (n.num != 0) with qnz | qnz
        · skip
          · as_aux_lemma =>
              go_wp2_with fail
              go_meet
              exact ⟨by rw [show shapeB n (useOf n.kind) = false from by simp only [shapeB, qL0, qL1, qN, qnum, qNe, qN4, qnz, Bool.false_and, Bool.true_and, Bool.or_true, Bool.true_or, Bool.false_or, Bool.or_false, Bool.and_true, Bool.and_false, Bool.not_true, Bool.not_false]]; first | rfl | (simp only [*]; rfl) | simp [*], M3⟩
        · skip
          rcases Bool.eq_false_or_eq_true (decide ((6 : Int) < (n.list.length : Int))) with qlen6 | qlen6
          · skip
            have alen6 : decide (6 < n.list.length) = true := by have h := of_decide_eq_true qlen6; exact decide_eq_true (by omega)
            have plen6 : (6 : Int) < (n.list.length : Int) := of_decide_eq_true qlen6
            · as_aux_lemma =>
                go_wp2_with fail
                go_meet
                exact ⟨by rw [show shapeB n (useOf n.kind) = false from by simp only [shapeB, qL0, qL1, qN, qnum, qNe, qN4, qnz, qlen6, Bool.false_and, Bool.true_and, Bool.or_true, Bool.true_or, Bool.false_or, Bool.or_false, Bool.and_true, Bool.and_false, Bool.not_true, Bool.not_false]]; first | rfl | (simp only [*]; rfl) | simp [*], M3⟩
          · skip
            have alen6 : decide (6 < n.list.length) = false := by have h := of_decide_eq_false qlen6; exact decide_eq_false (by omega)
            have plen6 : ¬ (6 : Int) < (n.list.length : Int) := of_decide_eq_false qlen6
            · as_aux_lemma =>
                go_wp2_with fail
                go_meet
                exact ⟨by rw [show shapeB n (useOf n.kind) = true from by simp only [shapeB, qL0, qL1, qN, qnum, qNe, qN4, qnz, qlen6, Bool.false_and, Bool.true_and, Bool.or_true, Bool.true_or, Bool.false_or, Bool.or_false, Bool.and_true, Bool.and_false, Bool.not_true, Bool.not_false]]; first | rfl | (simp only [*]; rfl) | simp [*], M3⟩
    · skip
      rcases Bool.eq_false_or_eq_true (decide ((0 : Int) < (n.list.length : Int))) with qlen0 | qlen0
      · skip
        have alen0 : decide (0 < n.list.length) = true := by have h := of_decide_eq_true qlen0; exact decide_eq_true (by omega)
        have plen0 : (0 : Int) < (n.list.length : Int) := of_decide_eq_true qlen0
        · as_aux_lemma =>
            go_wp2_with fail
            go_meet
            exact ⟨by rw [show shapeB n (useOf n.kind) = false from by simp only [shapeB, qL0, qL1, qN, qnum, qlen0, Bool.false_and, Bool.true_and, Bool.or_true, Bool.true_or, Bool.false_or, Bool.or_false, Bool.and_true, Bool.and_false, Bool.not_true, Bool.not_false]]; first | rfl | (simp only [*]; rfl) | simp [*], M3⟩
      · skip
        have alen0 : decide (0 < n.list.length) = false := by have h := of_decide_eq_false qlen0; exact decide_eq_false (by omega)
        have plen0 : ¬ (0 : Int) < (n.list.length : Int) := of_decide_eq_false qlen0
        have qlen6 : decide ((6 : Int) < (n.list.length : Int)) = false := by have := of_decide_eq_false qlen0; exact decide_eq_false (by omega)
        have alen6 : decide (6 < n.list.length) = false := by have h := of_decide_eq_false qlen6; exact decide_eq_false (by omega)
        have plen6 : ¬ (6 : Int) < (n.list.length : Int) := of_decide_eq_false qlen6
        rcases Bool.eq_false_or_eq_true (decide ((4 : Int) < (n.names.length : Int))) with qN4 | qN4
        · skip
          have aN4 : decide (4 < n.names.length) = true := by have h := of_decide_eq_true qN4; exact decide_eq_true (by omega)
          have pN4 : (4 : Int) < (n.names.length : Int) := of_decide_eq_true qN4
          · as_aux_lemma =>
              go_wp2_with fail
              go_meet
              exact ⟨by rw [show shapeB n (useOf n.kind) = false from by simp only [shapeB, qL0, qL1, qN, qnum, qlen0, qlen6, qN4, Bool.false_and, Bool.true_and, Bool.or_true, Bool.true_or, Bool.false_or, Bool.or_false, Bool.and_true, Bool.and_false, Bool.not_true, Bool.not_false]]; first | rfl | (simp only [*]; rfl) | simp [*], M3⟩
        · skip
          have aN4 : decide (4 < n.names.length) = false := by have h := of_decide_eq_false qN4; exact decide_eq_false (by omega)
          have pN4 : ¬ (4 : Int) < (n.names.length : Int) := of_decide_eq_false qN4
          rcases Bool.eq_false_or_eq_true (n.num != 0) with qnz | qnz
          · skip
            · as_aux_lemma =>
                go_wp2_with fail
                go_meet
                exact ⟨by rw [show shapeB n (useOf n.kind) = false from by simp only [shapeB, qL0, qL1, qN, qnum, qlen0, qlen6, qN4, qnz, Bool.false_and, Bool.true_and, Bool.or_true, Bool.true_or, Bool.false_or, Bool.or_false, Bool.and_true, Bool.and_false, Bool.not_true, Bool.not_false]]; first | rfl | (simp only [*]; rfl) | simp [*], M3⟩
          · skip
            · as_aux_lemma =>
                go_wp2_with fail
                go_meet
                exact ⟨by rw [show shapeB n (useOf n.kind) = true from by simp only [shapeB, qL0, qL1, qN, qnum, qlen0, qlen6, qN4, qnz, Bool.false_and, Bool.true_and, Bool.or_true, Bool.true_or, Bool.false_or, Bool.or_false, Bool.and_true, Bool.and_false, Bool.not_true, Bool.not_false]]; first | rfl | (simp only [*]; rfl) | simp [*], M3⟩
    · skip
      rcases Bool.eq_false_or_eq_true ((n.names.length : Int) != (useOf n.kind).names) with qNe | qNe
      · skip
        · as_aux_lemma =>
            go_wp2_with fail
            go_meet
            exact ⟨by rw [show shapeB n (useOf n.kind) = false from by simp only [shapeB, qL0, qL1, qN, qnum, qNe, Bool.false_and, Bool.true_and, Bool.or_true, Bool.true_or, Bool.false_or, Bool.or_false, Bool.and_true, Bool.and_false, Bool.not_true, Bool.not_false]]; first | rfl | (simp only [*]; rfl) | simp [*], M3⟩
      · skip
        have qN4 : decide ((4 : Int) < (n.names.length : Int)) = false := by have h := qNe; simp only [bne_eq_false_iff_eq] at h; exact decide_eq_false (by have := NM.out; omega)
        have qN4b : decide ((4 : Int) < (useOf n.kind).names) = false := decide_eq_false (by have := NM.out; omega)
        have aN4 : decide (4 < n.names.length) = false := by have h := of_decide_eq_false qN4; exact decide_eq_false (by omega)
        have pN4 : ¬ (4 : Int) < (n.names.length : Int) := of_decide_eq_false qN4
        rcases Bool.eq_false_or_eq_true (n.num != 0) with qnz | qnz
        · skip
          · as_aux_lemma =>
              go_wp2_with fail
              go_meet
              exact ⟨by rw [show shapeB n (useOf n.kind) = false from by simp only [shapeB, qL0, qL1, qN, qnum, qNe, qN4, qnz, Bool.false_and, Bool.true_and, Bool.or_true, Bool.true_or, Bool.false_or, Bool.or_false, Bool.and_true, Bool.and_false, Bool.not_true, Bool.not_false]]; first | rfl | (simp only [*]; rfl) | simp [*], M3⟩
        · skip
          rcases Bool.eq_false_or_eq_true (decide ((6 : Int) < (n.list.length : Int))) with qlen6 | qlen6
          · skip
            have alen6 : decide (6 < n.list.length) = true := by have h := of_decide_eq_true qlen6; exact decide_eq_true (by omega)
            have plen6 : (6 : Int) < (n.list.length : Int) := of_decide_eq_true qlen6
            · as_aux_lemma =>
                go_wp2_with fail
                go_meet
                exact ⟨by rw [show shapeB n (useOf n.kind) = true from by simp only [shapeB, qL0, qL1, qN, qnum, qNe, qN4, qnz, qlen6, Bool.false_and, Bool.true_and, Bool.or_true, Bool.true_or, Bool.false_or, Bool.or_false, Bool.and_true, Bool.and_false, Bool.not_true, Bool.not_false]]; first | rfl | (simp only [*]; rfl) | simp [*], M3⟩
          · skip
            have alen6 : decide (6 < n.list.length) = false := by have h := of_decide_eq_false qlen6; exact decide_eq_false (by omega)
            have plen6 : ¬ (6 : Int) < (n.list.length : Int) := of_decide_eq_false qlen6
            · as_aux_lemma =>
                go_wp2_with fail
                go_meet
                exact ⟨by rw [show shapeB n (useOf n.kind) = true from by simp only [shapeB, qL0, qL1, qN, qnum, qNe, qN4, qnz, qlen6, Bool.false_and, Bool.true_and, Bool.or_true, Bool.true_or, Bool.false_or, Bool.or_false, Bool.and_true, Bool.and_false, Bool.not_true, Bool.not_false]]; first | rfl | (simp only [*]; rfl) | simp [*], M3⟩
  case rest =>
  clear zu zn M3
  obtain ⟨rfl, M4⟩ := hcut
  have zu := M4.out.box (.head _); have zn := M4.out.box (.tail _ (.head _))
  by_cases hk : shapeB n (useOf n.kind) = true
  rotate_left
  · replace hk : shapeB n (useOf n.kind) = false := by simpa using hk
    rw [show (!shapeB n (useOf n.kind)) = true by rw [hk]; rfl]
    have C3 := Aside0.mk hk; clear hk
    as_aux_lemma =>
      go_wp2
      go_ret
      exact ⟨by rw [show nodeB t i n = false from by simp [nodeB, C1.out, C2.out, C3.out]]; rfl, u2, M4.out.drop.drop, HU2.out, fun h => by rw [show nodeB t i n = false from by simp [nodeB, C1.out, C2.out, C3.out]] at h; exact absurd h (by decide)⟩
  rw [show (!shapeB n (useOf n.kind)) = false by rw [hk]; rfl]
  have C3 := Aside0.mk hk; clear hk
  go_wp2_with fail
  go_loopw [9] (fun v wr => ∃ (j : Nat) (uj : List Int), v = .int .i64 j ∧ j ≤ n.list.length ∧ Aside0 (uj.length = t.length) ∧ Aside0 (∀ q : Nat, q < j → itemB t i (useOf n.kind).list (el 0 n.list q) = true) ∧ Aside0 (uj = bumps u2 (n.list.take j)) ∧ Aside0 (Mem w0 wr (Hold.box gu #[.int .i64 (useOf n.kind).a, .int .i64 (useOf n.kind).b, .int .i64 (useOf n.kind).c, .int .i64 (useOf n.kind).list, .int .i64 (useOf n.kind).names, .bool (useOf n.kind).num] 202 :: Hold.box w.heap.size #[.int .i64 n.kind, .int .i64 n.a, .int .i64 n.b, .int .i64 n.c, .slice pA4 n.list.length pc4, .slice pA5 n.names.length pc5, .int .u64 n.num, .int .i64 n.at_] 142 :: Hold.val (Kd.slice 3 (Kd.int .i64)) lo hi uj [v1] :: H))) (fun v _ => n.list.length - (intOf v).toNat)
  case atStart => exact ⟨0, u2, rfl, by omega, HU2, ⟨fun q hq => by omega⟩, ⟨rfl⟩, M4⟩
  case round =>
  clear zu zn M4
  obtain ⟨j, uj, rfl, hj, HUJ, HIT, HE, M5⟩ := hrel
  have zu := M5.out.box (.head _); have zn := M5.out.box (.tail _ (.head _))
  by_cases hlt : j < n.list.length
  · obtain ⟨a, rfl, hxa⟩ := int_at (Kd.C_below G4.out M5.out.below) j hlt
    have hjl : (j : Int) < (n.list.length : Int) := by omega
    go_upto_region 13 with fail
    obtain ⟨x, hx⟩ : ∃ x, x = el 0 n.list j := ⟨_, rfl⟩
    rw [← hx]; have HX := Aside0.mk hx; clear hx hxa
    go_cut [165] (fun v wx => v = .bool (!itemB t i (useOf n.kind).list x) ∧ Aside0 (Mem w0 wx (Hold.box gu #[.int .i64 (useOf n.kind).a, .int .i64 (useOf n.kind).b, .int .i64 (useOf n.kind).c, .int .i64 (useOf n.kind).list, .int .i64 (useOf n.kind).names, .bool (useOf n.kind).num] 202 :: Hold.box w.heap.size #[.int .i64 n.kind, .int .i64 n.a, .int .i64 n.b, .int .i64 n.c, .slice (some a) n.list.length pc4, .slice pA5 n.names.length pc5, .int .u64 n.num, .int .i64 n.at_] 142 :: Hold.val (Kd.slice 3 (Kd.int .i64)) lo hi uj [v1] :: H)))
    case first =>
      rcases Bool.eq_false_or_eq_true (inB x 0 ((i : Int) - 1)) with hin | hin
      rotate_left
      · have EI := Aside0.mk hin
        have IR := Aside0.mk (show itemB t i (useOf n.kind).list x = false by simp [itemB, hin])
        clear hin
        as_aux_lemma =>
          go_wp2_with fail
          refine (cIn _ _ _ _).mono ?_; rintro e w20 ⟨rfl, ⟨⟨n20, rfl⟩⟩⟩; rw [EI.out]
          go_wp2_with fail
          go_meet
          exact ⟨by rw [IR.out]; rfl, ⟨M5.out.draw _⟩⟩
      have EI := Aside0.mk hin
      obtain ⟨jx, rfl⟩ : ∃ jx : Nat, x = jx := ⟨x.toNat, by have := of_decide_eq_true hin; omega⟩
      have hjx : jx < t.length := by have := of_decide_eq_true hin; omega
      obtain ⟨pb, pB4, pd4, pB5, pd5, hpb, qK, qx0, qx1, qx2, qx3, qx4, qx5, qx6, qx7⟩ := NodeI_at (Kd.C_below HT.out M5.out.below) jx hjx
      clear qK qx1 qx2 qx3 qx4 qx5 qx6 qx7; cases hpb
      have i2 : (jx : Int) < (t.length : Int) := by omega
      rcases Bool.eq_false_or_eq_true ((useOf n.kind).list == 1) with qL1 | qL1
      · have hL : (useOf n.kind).list = 1 := by simpa using qL1
        have qL2 : ((useOf n.kind).list == 2) = false := by rw [hL]; rfl
        rcases Bool.eq_false_or_eq_true (exprB (el zNode t jx).kind) with hk | hk
        · have EK := Aside0.mk hk
          have IR := Aside0.mk (show itemB t i (useOf n.kind).list (jx : Int) = true by simp [itemB, hin, hL, kindAt, hk])
          clear hin hk hL
          as_aux_lemma =>
            go_wp2_with fail
            refine (cIn _ _ _ _).mono ?_; rintro e w21 ⟨rfl, ⟨⟨n21, rfl⟩⟩⟩; rw [EI.out]
            go_wp2_with fail
            refine (cExpr _ _).mono ?_; rintro e w22 ⟨rfl, ⟨⟨n22, rfl⟩⟩⟩; rw [EK.out]
            go_wp2_with fail
            go_meet
            exact ⟨by rw [IR.out]; rfl, ⟨M5.out.draw _⟩⟩
        · have EK := Aside0.mk hk
          have IR := Aside0.mk (show itemB t i (useOf n.kind).list (jx : Int) = false by simp [itemB, hin, hL, kindAt, hk])
          clear hin hk hL
          as_aux_lemma =>
            go_wp2_with fail
            refine (cIn _ _ _ _).mono ?_; rintro e w23 ⟨rfl, ⟨⟨n23, rfl⟩⟩⟩; rw [EI.out]
            go_wp2_with fail
            refine (cExpr _ _).mono ?_; rintro e w24 ⟨rfl, ⟨⟨n24, rfl⟩⟩⟩; rw [EK.out]
            go_wp2_with fail
            go_meet
            exact ⟨by rw [IR.out]; rfl, ⟨M5.out.draw _⟩⟩
      rcases Bool.eq_false_or_eq_true ((useOf n.kind).list == 2) with qL2 | qL2
      · have hL : (useOf n.kind).list = 2 := by simpa using qL2
        rcases Bool.eq_false_or_eq_true (stmtB (el zNode t jx).kind) with hk | hk
        · have EK := Aside0.mk hk
          have IR := Aside0.mk (show itemB t i (useOf n.kind).list (jx : Int) = true by simp [itemB, hin, hL, kindAt, hk])
          clear hin hk hL
          as_aux_lemma =>
            go_wp2_with fail
            refine (cIn _ _ _ _).mono ?_; rintro e w25 ⟨rfl, ⟨⟨n25, rfl⟩⟩⟩; rw [EI.out]
            go_wp2_with fail
            refine (cStmt _ _).mono ?_; rintro e w26 ⟨rfl, ⟨⟨n26, rfl⟩⟩⟩; rw [EK.out]
            go_wp2_with fail
            go_meet
            exact ⟨by rw [IR.out]; rfl, ⟨M5.out.draw _⟩⟩
        · have EK := Aside0.mk hk
          have IR := Aside0.mk (show itemB t i (useOf n.kind).list (jx : Int) = false by simp [itemB, hin, hL, kindAt, hk])
          clear hin hk hL
          as_aux_lemma =>
            go_wp2_with fail
            refine (cIn _ _ _ _).mono ?_; rintro e w27 ⟨rfl, ⟨⟨n27, rfl⟩⟩⟩; rw [EI.out]
            go_wp2_with fail
            refine (cStmt _ _).mono ?_; rintro e w28 ⟨rfl, ⟨⟨n28, rfl⟩⟩⟩; rw [EK.out]
            go_wp2_with fail
            go_meet
            exact ⟨by rw [IR.out]; rfl, ⟨M5.out.draw _⟩⟩
      have IR := Aside0.mk (show itemB t i (useOf n.kind).list (jx : Int) = true by simp [itemB, hin, show ¬ (useOf n.kind).list = 1 from by simpa using qL1, show ¬ (useOf n.kind).list = 2 from by simpa using qL2])
      clear hin
      as_aux_lemma =>
        go_wp2_with fail
        refine (cIn _ _ _ _).mono ?_; rintro e w29 ⟨rfl, ⟨⟨n29, rfl⟩⟩⟩; rw [EI.out]
        go_wp2_with fail
        go_meet
        exact ⟨by rw [IR.out]; rfl, ⟨M5.out.draw _⟩⟩
    case rest =>
    clear zu zn M5
    obtain ⟨rfl, M6⟩ := hcut
    have zu := M6.out.box (.head _); have zn := M6.out.box (.tail _ (.head _))
    by_cases hk : itemB t i (useOf n.kind).list x = true
    rotate_left
    · replace hk : itemB t i (useOf n.kind).list x = false := by simpa using hk
      rw [show (!itemB t i (useOf n.kind).list x) = true by rw [hk]; rfl]
      have C4 := Aside0.mk (show n.list.all (itemB t i (useOf n.kind).list) = false from by rw [List.all_eq_false]; exact ⟨x, by rw [HX.out]; exact el_mem 0 hlt, by rw [hk]; decide⟩); clear hk
      as_aux_lemma =>
        go_wp2
        go_ret
        exact ⟨by rw [show nodeB t i n = false from by simp [nodeB, C1.out, C2.out, C3.out, C4.out]]; rfl, uj, M6.out.drop.drop, HUJ.out, fun h => by rw [show nodeB t i n = false from by simp [nodeB, C1.out, C2.out, C3.out, C4.out]] at h; exact absurd h (by decide)⟩
    rw [show (!itemB t i (useOf n.kind).list x) = false by rw [hk]; rfl]
    have hin : inB x 0 ((i : Int) - 1) = true := by rcases Bool.eq_false_or_eq_true (inB x 0 ((i : Int) - 1)) with h | h; exact h; simp [itemB, h] at hk
    have HKX := Aside0.mk hk; clear hk
    obtain ⟨jx, hjx⟩ : ∃ jx : Nat, x = jx := ⟨x.toNat, by have := of_decide_eq_true hin; omega⟩
    have hjt : jx < t.length := by have := of_decide_eq_true hin; omega
    clear hin; subst hjx
    have R0 := M6.out.row (.tail _ (.tail _ (.head _)))
    have hju : (jx : Int) < (uj.length : Int) := by have := HUJ.out; omega
    obtain ⟨go, co, hv, gb, gl, cl, HG⟩ := Kd.R_form R0 (by omega)
    have hg := R0.1 go (by rw [hv]; simp [Value.ownBlock])
    subst hv
    obtain ⟨hx0, hf0⟩ := Kd.R_celln 0 R0 (jx : Int) (by omega) hju
    rw [Int.toNat_natCast] at hx0 hf0
    have M7 := Aside0.mk (show Mem w0 _ (Hold.box gu #[.int .i64 (useOf n.kind).a, .int .i64 (useOf n.kind).b, .int .i64 (useOf n.kind).c, .int .i64 (useOf n.kind).list, .int .i64 (useOf n.kind).names, .bool (useOf n.kind).num] 202 :: Hold.box w.heap.size #[.int .i64 n.kind, .int .i64 n.a, .int .i64 n.b, .int .i64 n.c, .slice (some a) n.list.length pc4, .slice pA5 n.names.length pc5, .int .u64 n.num, .int .i64 n.at_] 142 :: Hold.val (Kd.slice 3 (Kd.int .i64)) lo hi (bump uj (jx : Int)) [.slice (some ⟨go, 0, none⟩) uj.length co] :: H) from Mem.mark (A := [_, _]) M6.out (below_set M6.out.below (Nat.le_trans (M6.out.fits _ (.tail _ (.tail _ (.head _)))).1 gb)) (Kept.setCell (Kept.refl _ _) (.inl hg) _) ⟨_, rfl, (Kd.R_putg R0 (jx : Int) (wrap64 (rd uj (jx : Int) + 1))).1⟩)
    clear R0 gb gl HG hg
    go_wp2
    go_roundw
    case measure => simp [intOf]; omega
    case rel => exact ⟨j + 1, bump uj (jx : Int), by go_num, by omega, ⟨by rw [bump_len]; exact HUJ.out⟩, ⟨fun q hq => by rcases Nat.lt_succ_iff_lt_or_eq.1 hq with h | h; exact HIT.out q h; rw [h, ← HX.out]; exact HKX.out⟩, ⟨by rw [List.take_succ_eq_append_getElem hlt, bumps_app, ← HE.out, ← el_lt 0 hlt, ← HX.out]; rfl⟩, M7⟩
  have hjl : j = n.list.length := by omega
  subst hjl
  have C4 := Aside0.mk (show n.list.all (itemB t i (useOf n.kind).list) = true from by rw [List.all_eq_true]; intro y hy; obtain ⟨q, hq, rfl⟩ := List.getElem_of_mem hy; rw [← el_lt 0 hq]; exact HIT.out q hq)
  have BU := Aside0.mk (show uj = bumps u2 n.list by have h := HE.out; rwa [List.take_length] at h)
  clear HIT HE hj
  go_wp2_with fail
  go_loopw [11] (fun v wr => ∃ (j : Nat), v = .int .i64 j ∧ j ≤ n.names.length ∧ Aside0 (∀ q : Nat, q < j → labelB n.kind (el ByteArray.empty n.names q) = true) ∧ Aside0 (Mem w0 wr (Hold.box gu #[.int .i64 (useOf n.kind).a, .int .i64 (useOf n.kind).b, .int .i64 (useOf n.kind).c, .int .i64 (useOf n.kind).list, .int .i64 (useOf n.kind).names, .bool (useOf n.kind).num] 202 :: Hold.box w.heap.size #[.int .i64 n.kind, .int .i64 n.a, .int .i64 n.b, .int .i64 n.c, .slice pA4 n.list.length pc4, .slice pA5 n.names.length pc5, .int .u64 n.num, .int .i64 n.at_] 142 :: Hold.val (Kd.slice 3 (Kd.int .i64)) lo hi uj [v1] :: H))) (fun v _ => n.names.length - (intOf v).toNat)
  case atStart => exact ⟨0, rfl, by omega, ⟨fun q hq => by omega⟩, M5⟩
  case round =>
  clear zu zn M5
  obtain ⟨j, rfl, hj, HLB, M5⟩ := hrel
  have zu := M5.out.box (.head _); have zn := M5.out.box (.tail _ (.head _))
  by_cases hlt : j < n.names.length
  · obtain ⟨a, rfl, hxa⟩ := string_at (Kd.C_below G5.out M5.out.below) j hlt
    have hjl : (j : Int) < (n.names.length : Int) := by omega
    rcases Bool.eq_false_or_eq_true (n.kind == 2) with k2 | k2
    · have k2b : (n.kind != 2) = false := by simp [bne, k2]
      have hkk : n.kind = 2 := by simpa using k2
      have HKK := Aside0.mk hkk; clear hkk
      go_wp2_with fail
      refine (cSpecText _ _).mono ?_; rintro e w50 ⟨rfl, ⟨⟨n50, rfl⟩⟩⟩
      rcases Bool.eq_false_or_eq_true (textOk (el ByteArray.empty n.names j)) with hs | hs
      · rw [hs]
        have HS := Aside0.mk (show labelB n.kind (el ByteArray.empty n.names j) = true by unfold labelB; rw [if_pos HKK.out]; exact hs); clear hs
        go_wp2
        go_roundw
        case measure => simp [intOf]; omega
        case rel => exact ⟨j + 1, by go_num, by omega, ⟨fun q hq => by rcases Nat.lt_succ_iff_lt_or_eq.1 hq with h | h; exact HLB.out q h; rw [h]; exact HS.out⟩, ⟨(M5.out.draw n50)⟩⟩
      · rw [hs]
        have C5 := Aside0.mk (show n.names.all (labelB n.kind) = false from by rw [List.all_eq_false]; exact ⟨_, el_mem ByteArray.empty hlt, by unfold labelB; rw [if_pos HKK.out, hs]; decide⟩); clear hs
        have M5c := Aside0.mk (M5.out.draw n50)
        as_aux_lemma =>
          go_wp2
          go_ret
          exact ⟨by rw [show nodeB t i n = false from by simp [nodeB, C1.out, C2.out, C3.out, C4.out, C5.out]]; rfl, uj, M5c.out.drop.drop, HUJ.out, fun h => by rw [show nodeB t i n = false from by simp [nodeB, C1.out, C2.out, C3.out, C4.out, C5.out]] at h; exact absurd h (by decide)⟩
    · have k2b : (n.kind != 2) = true := by simp [bne, k2]
      have hkk : ¬ n.kind = 2 := by simpa using k2
      have HKK := Aside0.mk hkk; clear hkk
      go_wp2_with fail
      refine (cSpecName _ _).mono ?_; rintro e w50 ⟨rfl, hb⟩; have M5b := Aside0.mk (M5.out.step hb); clear hb zu zn; have zu := M5b.out.box (.head _); have zn := M5b.out.box (.tail _ (.head _))
      rcases Bool.eq_false_or_eq_true (nameOk (el ByteArray.empty n.names j)) with hs | hs
      · rw [hs]
        have HS := Aside0.mk (show labelB n.kind (el ByteArray.empty n.names j) = true by unfold labelB; rw [if_neg HKK.out]; exact hs); clear hs
        go_wp2
        go_roundw
        case measure => simp [intOf]; omega
        case rel => exact ⟨j + 1, by go_num, by omega, ⟨fun q hq => by rcases Nat.lt_succ_iff_lt_or_eq.1 hq with h | h; exact HLB.out q h; rw [h]; exact HS.out⟩, ⟨M5b.out⟩⟩
      · rw [hs]
        have C5 := Aside0.mk (show n.names.all (labelB n.kind) = false from by rw [List.all_eq_false]; exact ⟨_, el_mem ByteArray.empty hlt, by unfold labelB; rw [if_neg HKK.out, hs]; decide⟩); clear hs
        have M5c := Aside0.mk M5b.out
        as_aux_lemma =>
          go_wp2
          go_ret
          exact ⟨by rw [show nodeB t i n = false from by simp [nodeB, C1.out, C2.out, C3.out, C4.out, C5.out]]; rfl, uj, M5c.out.drop.drop, HUJ.out, fun h => by rw [show nodeB t i n = false from by simp [nodeB, C1.out, C2.out, C3.out, C4.out, C5.out]] at h; exact absurd h (by decide)⟩
  have hjl : ¬ (j : Int) < (n.names.length : Int) := by omega
  have C5 := Aside0.mk (show n.names.all (labelB n.kind) = true from by rw [List.all_eq_true]; intro y hy; obtain ⟨q, hq, rfl⟩ := List.getElem_of_mem hy; rw [← el_lt ByteArray.empty hq]; exact HLB.out q (by omega))
  clear HLB
  go_wp2_with fail
  have PO := Aside0.mk (parts_ok n.num HNUM.out.1 HNUM.out.2)
  refine (cParts n.num HNUM.out.1 HNUM.out.2 _).mono ?_; rintro e w60 ⟨rfl, hb⟩
  obtain ⟨r1, r2, r3, r4, hPN⟩ : ∃ r1 r2 r3 r4, PN n.num = (r1, r2, r3, r4) := ⟨_, _, _, _, rfl⟩
  rw [hPN] at PO ⊢; dsimp only at PO ⊢; clear hPN
  have M5p := Aside0.mk (M5.out.step hb); clear hb zu zn
  cases r2
  rotate_left
  · skip
    have M6 := Aside0.mk (M5p.out.allocAt rfl #[.int .i64 r1, .bool true, .int .u64 r3, .int .i64 r4] 206)
    have zp := M6.out.box (.head _); have zu := M6.out.box (.tail _ (.head _)); have zn := M6.out.box (.tail _ (.tail _ (.head _)))
    have C6 := Aside0.mk (show numOk n.num = false by have h := PO.out; simp only [Bool.true_or, Bool.true_or, Bool.or_true, Bool.false_or] at h; revert h; cases numOk n.num <;> simp)
    as_aux_lemma =>
      go_wp2
      go_ret
      exact ⟨by rw [show nodeB t i n = false from by simp [nodeB, C1.out, C2.out, C3.out, C4.out, C5.out, C6.out]]; rfl, uj, M6.out.drop.drop.drop, HUJ.out, fun h => by rw [show nodeB t i n = false from by simp [nodeB, C1.out, C2.out, C3.out, C4.out, C5.out, C6.out]] at h; exact absurd h (by decide)⟩
  have M6 := Aside0.mk (M5p.out.allocAt rfl #[.int .i64 r1, .bool false, .int .u64 r3, .int .i64 r4] 206)
  have zp := M6.out.box (.head _); have zu := M6.out.box (.tail _ (.head _)); have zn := M6.out.box (.tail _ (.tail _ (.head _)))
  rcases Bool.eq_false_or_eq_true (r1 == 1) with p1 | p1
  · skip
    have C6 := Aside0.mk (show numOk n.num = false by have h := PO.out; simp only [p1, Bool.true_or, Bool.or_true, Bool.false_or] at h; revert h; cases numOk n.num <;> simp)
    as_aux_lemma =>
      go_wp2
      go_ret
      exact ⟨by rw [show nodeB t i n = false from by simp [nodeB, C1.out, C2.out, C3.out, C4.out, C5.out, C6.out]]; rfl, uj, M6.out.drop.drop.drop, HUJ.out, fun h => by rw [show nodeB t i n = false from by simp [nodeB, C1.out, C2.out, C3.out, C4.out, C5.out, C6.out]] at h; exact absurd h (by decide)⟩
  rcases Bool.eq_false_or_eq_true (r1 == 2) with p2 | p2
  · skip
    have C6 := Aside0.mk (show numOk n.num = false by have h := PO.out; simp only [p1, p2, Bool.true_or, Bool.or_true, Bool.false_or] at h; revert h; cases numOk n.num <;> simp)
    as_aux_lemma =>
      go_wp2
      go_ret
      exact ⟨by rw [show nodeB t i n = false from by simp [nodeB, C1.out, C2.out, C3.out, C4.out, C5.out, C6.out]]; rfl, uj, M6.out.drop.drop.drop, HUJ.out, fun h => by rw [show nodeB t i n = false from by simp [nodeB, C1.out, C2.out, C3.out, C4.out, C5.out, C6.out]] at h; exact absurd h (by decide)⟩
  have C6 := Aside0.mk (show numOk n.num = true by have h := PO.out; simp only [p1, p2, Bool.or_self] at h; revert h; cases numOk n.num <;> simp)
  clear PO
  rcases Bool.eq_false_or_eq_true (n.kind == 9) with k9 | k9
  · have h9 : n.kind = 9 := by simpa using k9
    have k20 : (n.kind != 20) = true := by simp [h9]
    rcases Bool.eq_false_or_eq_true (inB n.c 1 11) with hc | hc
    · have EC := Aside0.mk hc
      as_aux_lemma =>
        have HF := Aside0.mk (show nodeB t i n = true from by unfold nodeB; rw [if_pos C1.out, if_pos C2.out, if_pos C3.out, if_pos C4.out, if_pos C5.out, if_pos C6.out]; simp [letB, h9, hc])
        clear h9 hc
        go_wp2_with fail
        refine (cIn _ _ _ _).mono ?_; rintro e w30 ⟨rfl, ⟨⟨n30, rfl⟩⟩⟩; rw [EC.out]
        go_wp2
        go_ret
        exact ⟨by rw [HF.out]; rfl, uj, (by first | exact M6.out.drop.drop.drop | exact (M6.out.draw _).drop.drop.drop), HUJ.out, fun _ => by rw [BU.out, B2.out C2.out]; simp [kids, ← bumps_app]⟩
    · have EC := Aside0.mk hc
      as_aux_lemma =>
        have HF := Aside0.mk (show nodeB t i n = false from by unfold nodeB; rw [if_pos C1.out, if_pos C2.out, if_pos C3.out, if_pos C4.out, if_pos C5.out, if_pos C6.out]; simp [letB, h9, hc])
        clear h9 hc
        go_wp2_with fail
        refine (cIn _ _ _ _).mono ?_; rintro e w31 ⟨rfl, ⟨⟨n31, rfl⟩⟩⟩; rw [EC.out]
        go_wp2
        go_ret
        exact ⟨by rw [HF.out]; rfl, uj, (by first | exact M6.out.drop.drop.drop | exact (M6.out.draw _).drop.drop.drop), HUJ.out, fun h => by rw [HF.out] at h; exact absurd h (by decide)⟩
  have h9 : ¬ n.kind = 9 := by simpa using k9
  rcases Bool.eq_false_or_eq_true (n.kind == 20) with k20 | k20
  rotate_left
  · have k20b : (n.kind != 20) = true := by simp [bne, k20]
    as_aux_lemma =>
      have HF := Aside0.mk (show nodeB t i n = true from by unfold nodeB; rw [if_pos C1.out, if_pos C2.out, if_pos C3.out, if_pos C4.out, if_pos C5.out, if_pos C6.out]; simp [letB, h9, show ¬ n.kind = 20 from by simpa using k20])
      go_wp2
      go_ret
      exact ⟨by rw [HF.out]; rfl, uj, (by first | exact M6.out.drop.drop.drop | exact (M6.out.draw _).drop.drop.drop), HUJ.out, fun _ => by rw [BU.out, B2.out C2.out]; simp [kids, ← bumps_app]⟩
  have k20b : (n.kind != 20) = false := by simp [bne, k20]
  have h20 : n.kind = 20 := by simpa using k20
  have hina : inB n.a 0 ((i : Int) - 1) = true := by
    have h := C2.out; unfold partsB at h; rw [h20] at h; simp only [Bool.and_eq_true] at h; have h1 := h.1; have e : (useOf 20).a = 1 := rfl; rw [e] at h1; unfold partB at h1; simp at h1; exact h1.1
  obtain ⟨ja, hja⟩ : ∃ ja : Nat, n.a = ja := ⟨n.a.toNat, by have := of_decide_eq_true hina; omega⟩
  have hjt : ja < t.length := by have := of_decide_eq_true hina; omega
  have hjt2 : n.a < (t.length : Int) := by omega
  have hjt3 : 0 ≤ n.a := by omega
  obtain ⟨pb, pB4, pd4, pB5, pd5, hpb, qK, qx0, qx1, qx2, qx3, qx4, qx5, qx6, qx7⟩ := NodeI_at (Kd.C_below HT.out M6.out.below) ja hjt
  clear qK qx1 qx2 qx3 qx4 qx5 qx6 qx7; cases hpb
  have hna : n.a.toNat = ja := by omega
  have qy0 : _ := hna ▸ qx0
  have HJA := Aside0.mk hja; have H20 := Aside0.mk h20; have H9 := Aside0.mk h9; clear hja h20 h9 hina k20
  rcases Bool.eq_false_or_eq_true (n.b == 0) with b0 | b0
  · skip
    as_aux_lemma =>
      have HF := Aside0.mk (show nodeB t i n = true from by unfold nodeB; rw [if_pos C1.out, if_pos C2.out, if_pos C3.out, if_pos C4.out, if_pos C5.out, if_pos C6.out]; simp [letB, H9.out, H20.out, b0])
      go_wp2
      go_ret
      exact ⟨by rw [HF.out]; rfl, uj, (by first | exact M6.out.drop.drop.drop | exact (M6.out.draw _).drop.drop.drop), HUJ.out, fun _ => by rw [BU.out, B2.out C2.out]; simp [kids, ← bumps_app]⟩
  rcases Bool.eq_false_or_eq_true (n.b == 1) with b1 | b1
  rotate_left
  · skip
    as_aux_lemma =>
      have HF := Aside0.mk (show nodeB t i n = false from by unfold nodeB; rw [if_pos C1.out, if_pos C2.out, if_pos C3.out, if_pos C4.out, if_pos C5.out, if_pos C6.out]; simp [letB, H9.out, H20.out, show ¬ n.b = 0 from by simpa using b0, show ¬ n.b = 1 from by simpa using b1])
      go_wp2
      go_ret
      exact ⟨by rw [HF.out]; rfl, uj, (by first | exact M6.out.drop.drop.drop | exact (M6.out.draw _).drop.drop.drop), HUJ.out, fun h => by rw [HF.out] at h; exact absurd h (by decide)⟩
  rcases Bool.eq_false_or_eq_true ((el zNode t ja).kind == 13) with kk | kk
  · have kk2 : ((el zNode t n.a.toNat).kind == 13) = true := by rw [hna]; exact kk
    as_aux_lemma =>
      have HF := Aside0.mk (show nodeB t i n = true from by unfold nodeB; rw [if_pos C1.out, if_pos C2.out, if_pos C3.out, if_pos C4.out, if_pos C5.out, if_pos C6.out]; simp [letB, H9.out, H20.out, show n.b = 1 from by simpa using b1, kindAt, hna, show (el zNode t ja).kind = 13 from by simpa using kk])
      go_wp2
      go_ret
      exact ⟨by rw [HF.out]; rfl, uj, (by first | exact M6.out.drop.drop.drop | exact (M6.out.draw _).drop.drop.drop), HUJ.out, fun _ => by rw [BU.out, B2.out C2.out]; simp [kids, ← bumps_app]⟩
  have kk2 : ((el zNode t n.a.toNat).kind == 13) = false := by rw [hna]; exact kk
  as_aux_lemma =>
    have HF := Aside0.mk (show nodeB t i n = false from by unfold nodeB; rw [if_pos C1.out, if_pos C2.out, if_pos C3.out, if_pos C4.out, if_pos C5.out, if_pos C6.out]; simp [letB, H9.out, H20.out, show ¬ n.b = 0 from by simpa using b0, show n.b = 1 from by simpa using b1, kindAt, hna, show ¬ (el zNode t ja).kind = 13 from by simpa using kk])
    go_wp2
    go_ret
    exact ⟨by rw [HF.out]; rfl, uj, (by first | exact M6.out.drop.drop.drop | exact (M6.out.draw _).drop.drop.drop), HUJ.out, fun h => by rw [HF.out] at h; exact absurd h (by decide)⟩
end Go.Proofs.Ytlhfhfamifmijaa.LeafN
end
