/- Part 19 of the proof: general lemmas, contracts of functions, walks. No condition of its own. -/
import Derived.Deep.RegionHeld3
import Derived.Test.YtlhfhfamifmijaaK16
section
namespace Go.Proofs.Ytlhfhfamifmijaa.LeafN
open Go.RowKit Go.Proofs.YtlhfhfamifmijaaW.PrintWords Go.Proofs.YtlhfhfamifmijaaW.PrintMore Go.Proofs.Ytlhfhfamifmijaa.Law Go.Proofs.Ytlhfhfamifmijaa.Num Go.Proofs.Ytlhfhfamifmijaa
set_option linter.unusedVariables false
set_option linter.unusedSimpArgs false
set_option autoImplicit false
set_option maxHeartbeats 8000000 in
set_option maxRecDepth 100000 in
theorem wants_20_0 (n : Node) (cs : List Value) (w : World) (hk : kNodeI.K w n cs) (hkind : n.kind = 20) (h0 : (inB n.b 0 1) = false) :
    Calls Try.prog 107 #[.agg ⟨cs⟩] w fun e w' => ∃ v, e = .returned (.tuple #[v, .bool false]) ∧ kWant.R 153 w' w.heap.size (fun _ => True) v [⟨n.a, 0⟩] ∧ Below w.heap.size w w' := by
  obtain ⟨A4, c4, A5, c5, rfl, h4, g4, h5, g5⟩ := kNodeI_open hk
  clear hk g4 g5 h4 h5
  have q1 : (n.kind == 1) = false := by simp [hkind]
  have q2 : (n.kind == 2) = false := by simp [hkind]
  have q3 : (n.kind == 3) = false := by simp [hkind]
  have q4 : (n.kind == 4) = false := by simp [hkind]
  have q5 : (n.kind == 5) = false := by simp [hkind]
  have q6 : (n.kind == 6) = false := by simp [hkind]
  have q7 : (n.kind == 7) = false := by simp [hkind]
  have q8 : (n.kind == 8) = false := by simp [hkind]
  have q21 : (n.kind == 21) = false := by simp [hkind]
  have q22 : (n.kind == 22) = false := by simp [hkind]
  have q25 : (n.kind == 25) = false := by simp [hkind]
  have q26 : (n.kind == 26) = false := by simp [hkind]
  have q28 : (n.kind == 28) = false := by simp [hkind]
  have q20 : (n.kind == 20) = true := by simp [hkind]
  clear hkind
  have M2 := Aside0.mk ((((Mem.start w).allocAt rfl #[.int .i64 n.kind, .int .i64 n.a, .int .i64 n.b, .int .i64 n.c, .slice A4 n.list.length c4, .slice A5 n.names.length c5, .int .u64 n.num, .int .i64 n.at_] 142).allocAt (g := w.heap.size + 1) (by simp) #[.int .i64 n.a, fnV 0] 153).allocAt (g := w.heap.size + 1 + 1) (by simp) #[.int .i64 n.b, fnV 0] 153)
  go_enter Try.func107, Try.ntmps107
  go_upto_region 20 with fail
  refine wp_region_held_drew (S := (fun W => (∀ o, W.cell? ⟨w.heap.size, o, none⟩ = (#[.int .i64 n.kind, .int .i64 n.a, .int .i64 n.b, .int .i64 n.c, .slice A4 n.list.length c4, .slice A5 n.names.length c5, .int .u64 n.num, .int .i64 n.at_] : Array Value)[o]?) ∧ (∀ o, W.cell? ⟨w.heap.size + 1, o, none⟩ = (#[.int .i64 n.a, fnV 0] : Array Value)[o]?) ∧ (∀ o, W.cell? ⟨w.heap.size + 1 + 1, o, none⟩ = (#[.int .i64 n.b, fnV 0] : Array Value)[o]?))) (by kernel_rfl) ?_ (fun hHeld => ?_)
  · first | exact ⟨(M2.out.drew).box (.tail _ (.tail _ (.head _))), (M2.out.drew).box (.tail _ (.head _)), (M2.out.drew).box (.head _)⟩ | exact ⟨(M2.out.drew.step (below_alloc (Below.refl _ _) _)).box (.tail _ (.tail _ (.head _))), (M2.out.drew.step (below_alloc (Below.refl _ _) _)).box (.tail _ (.head _)), (M2.out.drew.step (below_alloc (Below.refl _ _) _)).box (.head _)⟩ | exact ⟨(M2.out.step (by repeat (first | exact Below.refl _ _ | apply below_alloc | apply below_drew1 | apply pw_below_drewN))).box (.tail _ (.tail _ (.head _))), (M2.out.step (by repeat (first | exact Below.refl _ _ | apply below_alloc | apply below_drew1 | apply pw_below_drewN))).box (.tail _ (.head _)), (M2.out.step (by repeat (first | exact Below.refl _ _ | apply below_alloc | apply below_drew1 | apply pw_below_drewN))).box (.head _)⟩
  refine wpAnyH_take (i := 0) (oi := _) (v := ?v0_1) rfl (by kernel_rfl) (by kernel_rfl) (by kernel_rfl) (fun _ _ _ h => h) (Or.inl ⟨by rfl, ?hy0_1⟩) (by assumption) ?rest0_1
  case hy0_1 => (intro w hSw; (try dsimp only at hSw); go_simp; try with_reducible rfl)
  try simp only [Act.put, List.getElem_toArray, List.getElem_cons_zero, List.getElem_cons_succ, List.setIfInBounds_toArray, List.set_cons_zero, List.set_cons_succ]
  refine wpAnyH_take (i := 2) (oi := _) (v := ?v2_2) rfl (by kernel_rfl) (by kernel_rfl) (by kernel_rfl) (fun _ _ _ h => h) (Or.inl ⟨by rfl, ?hy2_2⟩) (by assumption) ?rest2_2
  case hy2_2 => (intro w hSw; (try dsimp only at hSw); go_simp; try with_reducible rfl)
  try simp only [Act.put, List.getElem_toArray, List.getElem_cons_zero, List.getElem_cons_succ, List.setIfInBounds_toArray, List.set_cons_zero, List.set_cons_succ]
  refine wpAnyH_take (i := 3) (oi := _) (v := ?v3_3) rfl (by kernel_rfl) (by kernel_rfl) (by kernel_rfl) (fun _ _ _ h => h) (Or.inl ⟨by rfl, ?hy3_3⟩) (by assumption) ?rest3_3
  case hy3_3 => (intro w hSw; (try dsimp only at hSw); go_simp; try with_reducible rfl)
  try simp only [Act.put, List.getElem_toArray, List.getElem_cons_zero, List.getElem_cons_succ, List.setIfInBounds_toArray, List.set_cons_zero, List.set_cons_succ]
  refine wpAnyH_ready (rs := [1, 4]) (by kernel_rfl) (by simp) ?_
  refine AllReadyH.cons (o := _) rfl (fun K hK => ?_) (AllReadyH.cons (o := _) rfl (fun K hK => ?_) AllReadyH.nil)
  · skip
    go_simp
    refine hK.out _ _ ?_ (fun hHeld => ?_)
    · first | exact ⟨(M2.out.drew).box (.tail _ (.tail _ (.head _))), (M2.out.drew).box (.tail _ (.head _)), (M2.out.drew).box (.head _)⟩ | exact ⟨(M2.out.drew.step (below_alloc (Below.refl _ _) _)).box (.tail _ (.tail _ (.head _))), (M2.out.drew.step (below_alloc (Below.refl _ _) _)).box (.tail _ (.head _)), (M2.out.drew.step (below_alloc (Below.refl _ _) _)).box (.head _)⟩ | exact ⟨(M2.out.step (by repeat (first | exact Below.refl _ _ | apply below_alloc | apply below_drew1 | apply pw_below_drewN))).box (.tail _ (.tail _ (.head _))), (M2.out.step (by repeat (first | exact Below.refl _ _ | apply below_alloc | apply below_drew1 | apply pw_below_drewN))).box (.tail _ (.head _)), (M2.out.step (by repeat (first | exact Below.refl _ _ | apply below_alloc | apply below_drew1 | apply pw_below_drewN))).box (.head _)⟩
    clear hK K
    try simp only [Act.put, List.getElem_toArray, List.getElem_cons_zero, List.getElem_cons_succ, List.setIfInBounds_toArray, List.set_cons_zero, List.set_cons_succ]
    refine wpAnyH_ready (rs := [4]) (by kernel_rfl) (by simp) ?_
    refine AllReadyH.cons (o := _) rfl (fun K hK => ?_) AllReadyH.nil
    go_simp
    go_at_call 73; refine (cWithin _ _ _ _).mono ?_; rintro e w1 ⟨rfl, ⟨⟨n1, rfl⟩⟩⟩; rw [h0]; go_wp2_with fail
    refine hK.out _ _ ?_ (fun hHeld => ?_)
    · first | exact ⟨(M2.out.drew).box (.tail _ (.tail _ (.head _))), (M2.out.drew).box (.tail _ (.head _)), (M2.out.drew).box (.head _)⟩ | exact ⟨(M2.out.drew.step (below_alloc (Below.refl _ _) _)).box (.tail _ (.tail _ (.head _))), (M2.out.drew.step (below_alloc (Below.refl _ _) _)).box (.tail _ (.head _)), (M2.out.drew.step (below_alloc (Below.refl _ _) _)).box (.head _)⟩ | exact ⟨(M2.out.step (by repeat (first | exact Below.refl _ _ | apply below_alloc | apply below_drew1 | apply pw_below_drewN))).box (.tail _ (.tail _ (.head _))), (M2.out.step (by repeat (first | exact Below.refl _ _ | apply below_alloc | apply below_drew1 | apply pw_below_drewN))).box (.tail _ (.head _)), (M2.out.step (by repeat (first | exact Below.refl _ _ | apply below_alloc | apply below_drew1 | apply pw_below_drewN))).box (.head _)⟩
    clear hK K
    try simp only [Act.put, List.getElem_toArray, List.getElem_cons_zero, List.getElem_cons_succ, List.setIfInBounds_toArray, List.set_cons_zero, List.set_cons_succ]
    refine wpAnyH_take (i := 5) (oi := _) (v := ?v5_4) rfl (by kernel_rfl) (by kernel_rfl) (by kernel_rfl) (fun _ _ _ h => h) (Or.inl ⟨by rfl, ?hy5_4⟩) (by assumption) ?rest5_4
    case hy5_4 => (intro w hSw; (try dsimp only at hSw); go_simp; try with_reducible rfl)
    try simp only [Act.put, List.getElem_toArray, List.getElem_cons_zero, List.getElem_cons_succ, List.setIfInBounds_toArray, List.set_cons_zero, List.set_cons_succ]
    refine wpAnyH_take (i := 6) (oi := _) (v := undef) rfl (by kernel_rfl) (by kernel_rfl) (by kernel_rfl) (fun _ _ _ h => h) (Or.inr ⟨by kernel_rfl, rfl⟩) (by assumption) ?_
    try simp only [Act.put, List.getElem_toArray, List.getElem_cons_zero, List.getElem_cons_succ, List.setIfInBounds_toArray, List.set_cons_zero, List.set_cons_succ]
    refine wpAnyH_take (i := 7) (oi := _) (v := undef) rfl (by kernel_rfl) (by kernel_rfl) (by kernel_rfl) (fun _ _ _ h => h) (Or.inr ⟨by kernel_rfl, rfl⟩) (by assumption) ?_
    try simp only [Act.put, List.getElem_toArray, List.getElem_cons_zero, List.getElem_cons_succ, List.setIfInBounds_toArray, List.set_cons_zero, List.set_cons_succ]
    refine wpAnyH_take (i := 8) (oi := _) (v := undef) rfl (by kernel_rfl) (by kernel_rfl) (by kernel_rfl) (fun _ _ _ h => h) (Or.inr ⟨by kernel_rfl, rfl⟩) (by assumption) ?_
    try simp only [Act.put, List.getElem_toArray, List.getElem_cons_zero, List.getElem_cons_succ, List.setIfInBounds_toArray, List.set_cons_zero, List.set_cons_succ]
    refine wpAnyH_take (i := 9) (oi := _) (v := ?v9_5) rfl (by kernel_rfl) (by kernel_rfl) (by kernel_rfl) (fun _ _ _ h => h) (Or.inl ⟨by rfl, ?hy9_5⟩) (by assumption) ?rest9_5
    case hy9_5 => (intro w hSw; (try dsimp only at hSw); go_simp; try with_reducible rfl)
    try simp only [Act.put, List.getElem_toArray, List.getElem_cons_zero, List.getElem_cons_succ, List.setIfInBounds_toArray, List.set_cons_zero, List.set_cons_succ]
    refine wpAnyH_take (i := 10) (oi := _) (v := ?v10_6) rfl (by kernel_rfl) (by kernel_rfl) (by kernel_rfl) (fun _ _ _ h => h) (Or.inl ⟨by rfl, ?hy10_6⟩) (by assumption) ?rest10_6
    case hy10_6 => (intro w hSw; (try dsimp only at hSw); go_simp; try with_reducible rfl)
    try simp only [Act.put, List.getElem_toArray, List.getElem_cons_zero, List.getElem_cons_succ, List.setIfInBounds_toArray, List.set_cons_zero, List.set_cons_succ]
    refine wpAnyH_take (i := 11) (oi := _) (v := ?v11_7) rfl (by kernel_rfl) (by kernel_rfl) (by kernel_rfl) (fun _ _ _ h => h) (Or.inl ⟨by rfl, ?hy11_7⟩) (by assumption) ?rest11_7
    case hy11_7 => (intro w hSw; (try dsimp only at hSw); go_simp; try with_reducible rfl)
    try simp only [Act.put, List.getElem_toArray, List.getElem_cons_zero, List.getElem_cons_succ, List.setIfInBounds_toArray, List.set_cons_zero, List.set_cons_succ]
    refine wpAnyH_done (by kernel_rfl) ?_ _
    go_wp2; go_ret2; exact ⟨_, by first | rfl | simp [*] | (simp only [*]; rfl), (by first | (refine R_litd _ _ _ [⟨n.a, 0⟩] _ _ ?_ ?_ ?_ ?_ ?_ <;> first | rfl | (simp; done) | (simp; omega)) | (refine R_litg _ _ _ [⟨n.a, 0⟩] _ _ ?_ ?_ ?_ ?_ ?_ <;> first | rfl | (simp; done) | (simp; omega)) | (refine R_litn _ _ _ [⟨n.a, 0⟩] _ _ _ ?_ ?_ ?_ ?_ ?_ <;> first | rfl | (simp; done) | (simp; omega))), by repeat (first | exact Below.refl _ _ | apply below_alloc | apply below_drew1 | apply pw_below_drewN)⟩
  · skip
    go_simp
    go_at_call 73; refine (cWithin _ _ _ _).mono ?_; rintro e w1 ⟨rfl, ⟨⟨n1, rfl⟩⟩⟩; rw [h0]; go_wp2_with fail
    refine hK.out _ _ ?_ (fun hHeld => ?_)
    · first | exact ⟨(M2.out.drew).box (.tail _ (.tail _ (.head _))), (M2.out.drew).box (.tail _ (.head _)), (M2.out.drew).box (.head _)⟩ | exact ⟨(M2.out.drew.step (below_alloc (Below.refl _ _) _)).box (.tail _ (.tail _ (.head _))), (M2.out.drew.step (below_alloc (Below.refl _ _) _)).box (.tail _ (.head _)), (M2.out.drew.step (below_alloc (Below.refl _ _) _)).box (.head _)⟩ | exact ⟨(M2.out.step (by repeat (first | exact Below.refl _ _ | apply below_alloc | apply below_drew1 | apply pw_below_drewN))).box (.tail _ (.tail _ (.head _))), (M2.out.step (by repeat (first | exact Below.refl _ _ | apply below_alloc | apply below_drew1 | apply pw_below_drewN))).box (.tail _ (.head _)), (M2.out.step (by repeat (first | exact Below.refl _ _ | apply below_alloc | apply below_drew1 | apply pw_below_drewN))).box (.head _)⟩
    clear hK K
    try simp only [Act.put, List.getElem_toArray, List.getElem_cons_zero, List.getElem_cons_succ, List.setIfInBounds_toArray, List.set_cons_zero, List.set_cons_succ]
    refine wpAnyH_take (i := 5) (oi := _) (v := ?v5_8) rfl (by kernel_rfl) (by kernel_rfl) (by kernel_rfl) (fun _ _ _ h => h) (Or.inl ⟨by rfl, ?hy5_8⟩) (by assumption) ?rest5_8
    case hy5_8 => (intro w hSw; (try dsimp only at hSw); go_simp; try with_reducible rfl)
    try simp only [Act.put, List.getElem_toArray, List.getElem_cons_zero, List.getElem_cons_succ, List.setIfInBounds_toArray, List.set_cons_zero, List.set_cons_succ]
    refine wpAnyH_take (i := 6) (oi := _) (v := undef) rfl (by kernel_rfl) (by kernel_rfl) (by kernel_rfl) (fun _ _ _ h => h) (Or.inr ⟨by kernel_rfl, rfl⟩) (by assumption) ?_
    try simp only [Act.put, List.getElem_toArray, List.getElem_cons_zero, List.getElem_cons_succ, List.setIfInBounds_toArray, List.set_cons_zero, List.set_cons_succ]
    refine wpAnyH_take (i := 7) (oi := _) (v := undef) rfl (by kernel_rfl) (by kernel_rfl) (by kernel_rfl) (fun _ _ _ h => h) (Or.inr ⟨by kernel_rfl, rfl⟩) (by assumption) ?_
    try simp only [Act.put, List.getElem_toArray, List.getElem_cons_zero, List.getElem_cons_succ, List.setIfInBounds_toArray, List.set_cons_zero, List.set_cons_succ]
    refine wpAnyH_take (i := 8) (oi := _) (v := undef) rfl (by kernel_rfl) (by kernel_rfl) (by kernel_rfl) (fun _ _ _ h => h) (Or.inr ⟨by kernel_rfl, rfl⟩) (by assumption) ?_
    try simp only [Act.put, List.getElem_toArray, List.getElem_cons_zero, List.getElem_cons_succ, List.setIfInBounds_toArray, List.set_cons_zero, List.set_cons_succ]
    refine wpAnyH_take (i := 9) (oi := _) (v := ?v9_9) rfl (by kernel_rfl) (by kernel_rfl) (by kernel_rfl) (fun _ _ _ h => h) (Or.inl ⟨by rfl, ?hy9_9⟩) (by assumption) ?rest9_9
    case hy9_9 => (intro w hSw; (try dsimp only at hSw); go_simp; try with_reducible rfl)
    try simp only [Act.put, List.getElem_toArray, List.getElem_cons_zero, List.getElem_cons_succ, List.setIfInBounds_toArray, List.set_cons_zero, List.set_cons_succ]
    refine wpAnyH_ready (rs := [1]) (by kernel_rfl) (by simp) ?_
    refine AllReadyH.cons (o := _) rfl (fun K hK => ?_) AllReadyH.nil
    go_simp
    refine hK.out _ _ ?_ (fun hHeld => ?_)
    · first | exact ⟨(M2.out.drew).box (.tail _ (.tail _ (.head _))), (M2.out.drew).box (.tail _ (.head _)), (M2.out.drew).box (.head _)⟩ | exact ⟨(M2.out.drew.step (below_alloc (Below.refl _ _) _)).box (.tail _ (.tail _ (.head _))), (M2.out.drew.step (below_alloc (Below.refl _ _) _)).box (.tail _ (.head _)), (M2.out.drew.step (below_alloc (Below.refl _ _) _)).box (.head _)⟩ | exact ⟨(M2.out.step (by repeat (first | exact Below.refl _ _ | apply below_alloc | apply below_drew1 | apply pw_below_drewN))).box (.tail _ (.tail _ (.head _))), (M2.out.step (by repeat (first | exact Below.refl _ _ | apply below_alloc | apply below_drew1 | apply pw_below_drewN))).box (.tail _ (.head _)), (M2.out.step (by repeat (first | exact Below.refl _ _ | apply below_alloc | apply below_drew1 | apply pw_below_drewN))).box (.head _)⟩
    clear hK K
    try simp only [Act.put, List.getElem_toArray, List.getElem_cons_zero, List.getElem_cons_succ, List.setIfInBounds_toArray, List.set_cons_zero, List.set_cons_succ]
    refine wpAnyH_take (i := 10) (oi := _) (v := ?v10_10) rfl (by kernel_rfl) (by kernel_rfl) (by kernel_rfl) (fun _ _ _ h => h) (Or.inl ⟨by rfl, ?hy10_10⟩) (by assumption) ?rest10_10
    case hy10_10 => (intro w hSw; (try dsimp only at hSw); go_simp; try with_reducible rfl)
    try simp only [Act.put, List.getElem_toArray, List.getElem_cons_zero, List.getElem_cons_succ, List.setIfInBounds_toArray, List.set_cons_zero, List.set_cons_succ]
    refine wpAnyH_take (i := 11) (oi := _) (v := ?v11_11) rfl (by kernel_rfl) (by kernel_rfl) (by kernel_rfl) (fun _ _ _ h => h) (Or.inl ⟨by rfl, ?hy11_11⟩) (by assumption) ?rest11_11
    case hy11_11 => (intro w hSw; (try dsimp only at hSw); go_simp; try with_reducible rfl)
    try simp only [Act.put, List.getElem_toArray, List.getElem_cons_zero, List.getElem_cons_succ, List.setIfInBounds_toArray, List.set_cons_zero, List.set_cons_succ]
    refine wpAnyH_done (by kernel_rfl) ?_ _
    go_wp2; go_ret2; exact ⟨_, by first | rfl | simp [*] | (simp only [*]; rfl), (by first | (refine R_litd _ _ _ [⟨n.a, 0⟩] _ _ ?_ ?_ ?_ ?_ ?_ <;> first | rfl | (simp; done) | (simp; omega)) | (refine R_litg _ _ _ [⟨n.a, 0⟩] _ _ ?_ ?_ ?_ ?_ ?_ <;> first | rfl | (simp; done) | (simp; omega)) | (refine R_litn _ _ _ [⟨n.a, 0⟩] _ _ _ ?_ ?_ ?_ ?_ ?_ <;> first | rfl | (simp; done) | (simp; omega))), by repeat (first | exact Below.refl _ _ | apply below_alloc | apply below_drew1 | apply pw_below_drewN)⟩
set_option maxHeartbeats 8000000 in
set_option maxRecDepth 100000 in
theorem wants_20_1 (n : Node) (cs : List Value) (w : World) (hk : kNodeI.K w n cs) (hkind : n.kind = 20) (h0 : (inB n.b 0 1) = true) (h1 : (n.c == 0) = false) :
    Calls Try.prog 107 #[.agg ⟨cs⟩] w fun e w' => ∃ v, e = .returned (.tuple #[v, .bool false]) ∧ kWant.R 153 w' w.heap.size (fun _ => True) v [⟨n.a, 0⟩] ∧ Below w.heap.size w w' := by
  obtain ⟨A4, c4, A5, c5, rfl, h4, g4, h5, g5⟩ := kNodeI_open hk
  clear hk g4 g5 h4 h5
  have q1 : (n.kind == 1) = false := by simp [hkind]
  have q2 : (n.kind == 2) = false := by simp [hkind]
  have q3 : (n.kind == 3) = false := by simp [hkind]
  have q4 : (n.kind == 4) = false := by simp [hkind]
  have q5 : (n.kind == 5) = false := by simp [hkind]
  have q6 : (n.kind == 6) = false := by simp [hkind]
  have q7 : (n.kind == 7) = false := by simp [hkind]
  have q8 : (n.kind == 8) = false := by simp [hkind]
  have q21 : (n.kind == 21) = false := by simp [hkind]
  have q22 : (n.kind == 22) = false := by simp [hkind]
  have q25 : (n.kind == 25) = false := by simp [hkind]
  have q26 : (n.kind == 26) = false := by simp [hkind]
  have q28 : (n.kind == 28) = false := by simp [hkind]
  have q20 : (n.kind == 20) = true := by simp [hkind]
  clear hkind
  have hd1 : decide (n.c = 0) = false := by simpa using h1
  have hn1 : ¬ n.c = 0 := by simpa using h1
  have M2 := Aside0.mk ((((Mem.start w).allocAt rfl #[.int .i64 n.kind, .int .i64 n.a, .int .i64 n.b, .int .i64 n.c, .slice A4 n.list.length c4, .slice A5 n.names.length c5, .int .u64 n.num, .int .i64 n.at_] 142).allocAt (g := w.heap.size + 1) (by simp) #[.int .i64 n.a, fnV 0] 153).allocAt (g := w.heap.size + 1 + 1) (by simp) #[.int .i64 n.b, fnV 0] 153)
  go_enter Try.func107, Try.ntmps107
  go_upto_region 20 with fail
  go_region_held3 (fun W => (∀ o, W.cell? ⟨w.heap.size, o, none⟩ = (#[.int .i64 n.kind, .int .i64 n.a, .int .i64 n.b, .int .i64 n.c, .slice A4 n.list.length c4, .slice A5 n.names.length c5, .int .u64 n.num, .int .i64 n.at_] : Array Value)[o]?) ∧ (∀ o, W.cell? ⟨w.heap.size + 1, o, none⟩ = (#[.int .i64 n.a, fnV 0] : Array Value)[o]?) ∧ (∀ o, W.cell? ⟨w.heap.size + 1 + 1, o, none⟩ = (#[.int .i64 n.b, fnV 0] : Array Value)[o]?)) (first | exact ⟨(M2.out.drew).box (.tail _ (.tail _ (.head _))), (M2.out.drew).box (.tail _ (.head _)), (M2.out.drew).box (.head _)⟩ | exact ⟨(M2.out.drew.step (below_alloc (Below.refl _ _) _)).box (.tail _ (.tail _ (.head _))), (M2.out.drew.step (below_alloc (Below.refl _ _) _)).box (.tail _ (.head _)), (M2.out.drew.step (below_alloc (Below.refl _ _) _)).box (.head _)⟩ | exact ⟨(M2.out.step (by repeat (first | exact Below.refl _ _ | apply below_alloc | apply below_drew1 | apply pw_below_drewN))).box (.tail _ (.tail _ (.head _))), (M2.out.step (by repeat (first | exact Below.refl _ _ | apply below_alloc | apply below_drew1 | apply pw_below_drewN))).box (.tail _ (.head _)), (M2.out.step (by repeat (first | exact Below.refl _ _ | apply below_alloc | apply below_drew1 | apply pw_below_drewN))).box (.head _)⟩) (first | (go_at_call 73; refine (cWithin _ _ _ _).mono ?_; rintro e w1 ⟨rfl, ⟨⟨n1, rfl⟩⟩⟩))
  all_goals (go_wp2; go_ret2; exact ⟨_, by first | rfl | simp [*] | (simp only [*]; rfl), (by first | (refine R_litd _ _ _ [⟨n.a, 0⟩] _ _ ?_ ?_ ?_ ?_ ?_ <;> first | rfl | (simp; done) | (simp; omega)) | (refine R_litg _ _ _ [⟨n.a, 0⟩] _ _ ?_ ?_ ?_ ?_ ?_ <;> first | rfl | (simp; done) | (simp; omega)) | (refine R_litn _ _ _ [⟨n.a, 0⟩] _ _ _ ?_ ?_ ?_ ?_ ?_ <;> first | rfl | (simp; done) | (simp; omega))), by repeat (first | exact Below.refl _ _ | apply below_alloc | apply below_drew1 | apply pw_below_drewN)⟩)
set_option maxHeartbeats 8000000 in
set_option maxRecDepth 100000 in
theorem wants_20_2 (n : Node) (cs : List Value) (w : World) (hk : kNodeI.K w n cs) (hkind : n.kind = 20) (h0 : (inB n.b 0 1) = true) (h1 : (n.c == 0) = true) :
    Calls Try.prog 107 #[.agg ⟨cs⟩] w fun e w' => ∃ v, e = .returned (.tuple #[v, .bool true]) ∧ kWant.R 153 w' w.heap.size (fun _ => True) v [⟨n.a, 0⟩] ∧ Below w.heap.size w w' := by
  obtain ⟨A4, c4, A5, c5, rfl, h4, g4, h5, g5⟩ := kNodeI_open hk
  clear hk g4 g5 h4 h5
  have q1 : (n.kind == 1) = false := by simp [hkind]
  have q2 : (n.kind == 2) = false := by simp [hkind]
  have q3 : (n.kind == 3) = false := by simp [hkind]
  have q4 : (n.kind == 4) = false := by simp [hkind]
  have q5 : (n.kind == 5) = false := by simp [hkind]
  have q6 : (n.kind == 6) = false := by simp [hkind]
  have q7 : (n.kind == 7) = false := by simp [hkind]
  have q8 : (n.kind == 8) = false := by simp [hkind]
  have q21 : (n.kind == 21) = false := by simp [hkind]
  have q22 : (n.kind == 22) = false := by simp [hkind]
  have q25 : (n.kind == 25) = false := by simp [hkind]
  have q26 : (n.kind == 26) = false := by simp [hkind]
  have q28 : (n.kind == 28) = false := by simp [hkind]
  have q20 : (n.kind == 20) = true := by simp [hkind]
  clear hkind
  have hd1 : decide (n.c = 0) = true := by simpa using h1
  have M2 := Aside0.mk ((((Mem.start w).allocAt rfl #[.int .i64 n.kind, .int .i64 n.a, .int .i64 n.b, .int .i64 n.c, .slice A4 n.list.length c4, .slice A5 n.names.length c5, .int .u64 n.num, .int .i64 n.at_] 142).allocAt (g := w.heap.size + 1) (by simp) #[.int .i64 n.a, fnV 0] 153).allocAt (g := w.heap.size + 1 + 1) (by simp) #[.int .i64 n.b, fnV 0] 153)
  go_enter Try.func107, Try.ntmps107
  go_upto_region 20 with fail
  go_region_held3 (fun W => (∀ o, W.cell? ⟨w.heap.size, o, none⟩ = (#[.int .i64 n.kind, .int .i64 n.a, .int .i64 n.b, .int .i64 n.c, .slice A4 n.list.length c4, .slice A5 n.names.length c5, .int .u64 n.num, .int .i64 n.at_] : Array Value)[o]?) ∧ (∀ o, W.cell? ⟨w.heap.size + 1, o, none⟩ = (#[.int .i64 n.a, fnV 0] : Array Value)[o]?) ∧ (∀ o, W.cell? ⟨w.heap.size + 1 + 1, o, none⟩ = (#[.int .i64 n.b, fnV 0] : Array Value)[o]?)) (first | exact ⟨(M2.out.drew).box (.tail _ (.tail _ (.head _))), (M2.out.drew).box (.tail _ (.head _)), (M2.out.drew).box (.head _)⟩ | exact ⟨(M2.out.drew.step (below_alloc (Below.refl _ _) _)).box (.tail _ (.tail _ (.head _))), (M2.out.drew.step (below_alloc (Below.refl _ _) _)).box (.tail _ (.head _)), (M2.out.drew.step (below_alloc (Below.refl _ _) _)).box (.head _)⟩ | exact ⟨(M2.out.step (by repeat (first | exact Below.refl _ _ | apply below_alloc | apply below_drew1 | apply pw_below_drewN))).box (.tail _ (.tail _ (.head _))), (M2.out.step (by repeat (first | exact Below.refl _ _ | apply below_alloc | apply below_drew1 | apply pw_below_drewN))).box (.tail _ (.head _)), (M2.out.step (by repeat (first | exact Below.refl _ _ | apply below_alloc | apply below_drew1 | apply pw_below_drewN))).box (.head _)⟩) (first | (go_at_call 73; refine (cWithin _ _ _ _).mono ?_; rintro e w1 ⟨rfl, ⟨⟨n1, rfl⟩⟩⟩))
  all_goals (go_wp2; go_ret2; exact ⟨_, by first | rfl | simp [*] | (simp only [*]; rfl), (by first | (refine R_litd _ _ _ [⟨n.a, 0⟩] _ _ ?_ ?_ ?_ ?_ ?_ <;> first | rfl | (simp; done) | (simp; omega)) | (refine R_litg _ _ _ [⟨n.a, 0⟩] _ _ ?_ ?_ ?_ ?_ ?_ <;> first | rfl | (simp; done) | (simp; omega)) | (refine R_litn _ _ _ [⟨n.a, 0⟩] _ _ _ ?_ ?_ ?_ ?_ ?_ <;> first | rfl | (simp; done) | (simp; omega))), by repeat (first | exact Below.refl _ _ | apply below_alloc | apply below_drew1 | apply pw_below_drewN)⟩)
set_option maxHeartbeats 8000000 in
set_option maxRecDepth 100000 in
theorem wants_9_0 (n : Node) (cs : List Value) (w : World) (hk : kNodeI.K w n cs) (hkind : n.kind = 9) (h0 : (inB n.c 1 11) = false) :
    Calls Try.prog 107 #[.agg ⟨cs⟩] w fun e w' => ∃ v, e = .returned (.tuple #[v, .bool false]) ∧ kWant.R 153 w' w.heap.size (fun _ => True) v [⟨n.a, 0⟩, ⟨n.b, 0⟩] ∧ Below w.heap.size w w' := by
  obtain ⟨A4, c4, A5, c5, rfl, h4, g4, h5, g5⟩ := kNodeI_open hk
  clear hk g4 g5 h4 h5
  have q1 : (n.kind == 1) = false := by simp [hkind]
  have q2 : (n.kind == 2) = false := by simp [hkind]
  have q3 : (n.kind == 3) = false := by simp [hkind]
  have q4 : (n.kind == 4) = false := by simp [hkind]
  have q5 : (n.kind == 5) = false := by simp [hkind]
  have q6 : (n.kind == 6) = false := by simp [hkind]
  have q7 : (n.kind == 7) = false := by simp [hkind]
  have q8 : (n.kind == 8) = false := by simp [hkind]
  have q21 : (n.kind == 21) = false := by simp [hkind]
  have q22 : (n.kind == 22) = false := by simp [hkind]
  have q25 : (n.kind == 25) = false := by simp [hkind]
  have q26 : (n.kind == 26) = false := by simp [hkind]
  have q28 : (n.kind == 28) = false := by simp [hkind]
  have q20 : (n.kind == 20) = false := by simp [hkind]
  have q9 : (n.kind == 9) = true := by simp [hkind]
  clear hkind
  have M2 := Aside0.mk ((((Mem.start w).allocAt rfl #[.int .i64 n.kind, .int .i64 n.a, .int .i64 n.b, .int .i64 n.c, .slice A4 n.list.length c4, .slice A5 n.names.length c5, .int .u64 n.num, .int .i64 n.at_] 142).allocAt (g := w.heap.size + 1) (by simp) #[.int .i64 n.a, fnV 0] 153).allocAt (g := w.heap.size + 1 + 1) (by simp) #[.int .i64 n.b, fnV 0] 153)
  go_enter Try.func107, Try.ntmps107
  go_upto_region 22 with fail
  go_region_held3 (fun W => (∀ o, W.cell? ⟨w.heap.size, o, none⟩ = (#[.int .i64 n.kind, .int .i64 n.a, .int .i64 n.b, .int .i64 n.c, .slice A4 n.list.length c4, .slice A5 n.names.length c5, .int .u64 n.num, .int .i64 n.at_] : Array Value)[o]?) ∧ (∀ o, W.cell? ⟨w.heap.size + 1, o, none⟩ = (#[.int .i64 n.a, fnV 0] : Array Value)[o]?) ∧ (∀ o, W.cell? ⟨w.heap.size + 1 + 1, o, none⟩ = (#[.int .i64 n.b, fnV 0] : Array Value)[o]?)) (first | exact ⟨(M2.out.drew).box (.tail _ (.tail _ (.head _))), (M2.out.drew).box (.tail _ (.head _)), (M2.out.drew).box (.head _)⟩ | exact ⟨(M2.out.drew.step (below_alloc (Below.refl _ _) _)).box (.tail _ (.tail _ (.head _))), (M2.out.drew.step (below_alloc (Below.refl _ _) _)).box (.tail _ (.head _)), (M2.out.drew.step (below_alloc (Below.refl _ _) _)).box (.head _)⟩ | exact ⟨(M2.out.step (by repeat (first | exact Below.refl _ _ | apply below_alloc | apply below_drew1 | apply pw_below_drewN))).box (.tail _ (.tail _ (.head _))), (M2.out.step (by repeat (first | exact Below.refl _ _ | apply below_alloc | apply below_drew1 | apply pw_below_drewN))).box (.tail _ (.head _)), (M2.out.step (by repeat (first | exact Below.refl _ _ | apply below_alloc | apply below_drew1 | apply pw_below_drewN))).box (.head _)⟩) (first | (go_at_call 73; refine (cWithin _ _ _ _).mono ?_; rintro e w1 ⟨rfl, ⟨⟨n1, rfl⟩⟩⟩))
  all_goals (go_wp2; go_ret2; exact ⟨_, by first | rfl | simp [*] | (simp only [*]; rfl), (by first | (refine R_litd _ _ _ [⟨n.a, 0⟩, ⟨n.b, 0⟩] _ _ ?_ ?_ ?_ ?_ ?_ <;> first | rfl | (simp; done) | (simp; omega)) | (refine R_litg _ _ _ [⟨n.a, 0⟩, ⟨n.b, 0⟩] _ _ ?_ ?_ ?_ ?_ ?_ <;> first | rfl | (simp; done) | (simp; omega)) | (refine R_litn _ _ _ [⟨n.a, 0⟩, ⟨n.b, 0⟩] _ _ _ ?_ ?_ ?_ ?_ ?_ <;> first | rfl | (simp; done) | (simp; omega))), by repeat (first | exact Below.refl _ _ | apply below_alloc | apply below_drew1 | apply pw_below_drewN)⟩)
set_option maxHeartbeats 8000000 in
set_option maxRecDepth 100000 in
theorem wants_9_1 (n : Node) (cs : List Value) (w : World) (hk : kNodeI.K w n cs) (hkind : n.kind = 9) (h0 : (inB n.c 1 11) = true) :
    Calls Try.prog 107 #[.agg ⟨cs⟩] w fun e w' => ∃ v, e = .returned (.tuple #[v, .bool true]) ∧ kWant.R 153 w' w.heap.size (fun _ => True) v [⟨n.a, 0⟩, ⟨n.b, 0⟩] ∧ Below w.heap.size w w' := by
  obtain ⟨A4, c4, A5, c5, rfl, h4, g4, h5, g5⟩ := kNodeI_open hk
  clear hk g4 g5 h4 h5
  have q1 : (n.kind == 1) = false := by simp [hkind]
  have q2 : (n.kind == 2) = false := by simp [hkind]
  have q3 : (n.kind == 3) = false := by simp [hkind]
  have q4 : (n.kind == 4) = false := by simp [hkind]
  have q5 : (n.kind == 5) = false := by simp [hkind]
  have q6 : (n.kind == 6) = false := by simp [hkind]
  have q7 : (n.kind == 7) = false := by simp [hkind]
  have q8 : (n.kind == 8) = false := by simp [hkind]
  have q21 : (n.kind == 21) = false := by simp [hkind]
  have q22 : (n.kind == 22) = false := by simp [hkind]
  have q25 : (n.kind == 25) = false := by simp [hkind]
  have q26 : (n.kind == 26) = false := by simp [hkind]
  have q28 : (n.kind == 28) = false := by simp [hkind]
  have q20 : (n.kind == 20) = false := by simp [hkind]
  have q9 : (n.kind == 9) = true := by simp [hkind]
  clear hkind
  have M2 := Aside0.mk ((((Mem.start w).allocAt rfl #[.int .i64 n.kind, .int .i64 n.a, .int .i64 n.b, .int .i64 n.c, .slice A4 n.list.length c4, .slice A5 n.names.length c5, .int .u64 n.num, .int .i64 n.at_] 142).allocAt (g := w.heap.size + 1) (by simp) #[.int .i64 n.a, fnV 0] 153).allocAt (g := w.heap.size + 1 + 1) (by simp) #[.int .i64 n.b, fnV 0] 153)
  go_enter Try.func107, Try.ntmps107
  go_upto_region 22 with fail
  go_region_held3 (fun W => (∀ o, W.cell? ⟨w.heap.size, o, none⟩ = (#[.int .i64 n.kind, .int .i64 n.a, .int .i64 n.b, .int .i64 n.c, .slice A4 n.list.length c4, .slice A5 n.names.length c5, .int .u64 n.num, .int .i64 n.at_] : Array Value)[o]?) ∧ (∀ o, W.cell? ⟨w.heap.size + 1, o, none⟩ = (#[.int .i64 n.a, fnV 0] : Array Value)[o]?) ∧ (∀ o, W.cell? ⟨w.heap.size + 1 + 1, o, none⟩ = (#[.int .i64 n.b, fnV 0] : Array Value)[o]?)) (first | exact ⟨(M2.out.drew).box (.tail _ (.tail _ (.head _))), (M2.out.drew).box (.tail _ (.head _)), (M2.out.drew).box (.head _)⟩ | exact ⟨(M2.out.drew.step (below_alloc (Below.refl _ _) _)).box (.tail _ (.tail _ (.head _))), (M2.out.drew.step (below_alloc (Below.refl _ _) _)).box (.tail _ (.head _)), (M2.out.drew.step (below_alloc (Below.refl _ _) _)).box (.head _)⟩ | exact ⟨(M2.out.step (by repeat (first | exact Below.refl _ _ | apply below_alloc | apply below_drew1 | apply pw_below_drewN))).box (.tail _ (.tail _ (.head _))), (M2.out.step (by repeat (first | exact Below.refl _ _ | apply below_alloc | apply below_drew1 | apply pw_below_drewN))).box (.tail _ (.head _)), (M2.out.step (by repeat (first | exact Below.refl _ _ | apply below_alloc | apply below_drew1 | apply pw_below_drewN))).box (.head _)⟩) (first | (go_at_call 73; refine (cWithin _ _ _ _).mono ?_; rintro e w1 ⟨rfl, ⟨⟨n1, rfl⟩⟩⟩))
  all_goals (go_wp2; go_ret2; exact ⟨_, by first | rfl | simp [*] | (simp only [*]; rfl), (by first | (refine R_litd _ _ _ [⟨n.a, 0⟩, ⟨n.b, 0⟩] _ _ ?_ ?_ ?_ ?_ ?_ <;> first | rfl | (simp; done) | (simp; omega)) | (refine R_litg _ _ _ [⟨n.a, 0⟩, ⟨n.b, 0⟩] _ _ ?_ ?_ ?_ ?_ ?_ <;> first | rfl | (simp; done) | (simp; omega)) | (refine R_litn _ _ _ [⟨n.a, 0⟩, ⟨n.b, 0⟩] _ _ _ ?_ ?_ ?_ ?_ ?_ <;> first | rfl | (simp; done) | (simp; omega))), by repeat (first | exact Below.refl _ _ | apply below_alloc | apply below_drew1 | apply pw_below_drewN)⟩)
set_option maxHeartbeats 8000000 in
set_option maxRecDepth 100000 in
theorem wants_10_0 (n : Node) (cs : List Value) (w : World) (hk : kNodeI.K w n cs) (hkind : n.kind = 10) (h0 : (n.c == 0) = false) :
    Calls Try.prog 107 #[.agg ⟨cs⟩] w fun e w' => ∃ v, e = .returned (.tuple #[v, .bool false]) ∧ kWant.R 153 w' w.heap.size (fun _ => True) v [⟨n.a, 0⟩, ⟨n.b, 0⟩] ∧ Below w.heap.size w w' := by
  obtain ⟨A4, c4, A5, c5, rfl, h4, g4, h5, g5⟩ := kNodeI_open hk
  clear hk g4 g5 h4 h5
  have q1 : (n.kind == 1) = false := by simp [hkind]
  have q2 : (n.kind == 2) = false := by simp [hkind]
  have q3 : (n.kind == 3) = false := by simp [hkind]
  have q4 : (n.kind == 4) = false := by simp [hkind]
  have q5 : (n.kind == 5) = false := by simp [hkind]
  have q6 : (n.kind == 6) = false := by simp [hkind]
  have q7 : (n.kind == 7) = false := by simp [hkind]
  have q8 : (n.kind == 8) = false := by simp [hkind]
  have q21 : (n.kind == 21) = false := by simp [hkind]
  have q22 : (n.kind == 22) = false := by simp [hkind]
  have q25 : (n.kind == 25) = false := by simp [hkind]
  have q26 : (n.kind == 26) = false := by simp [hkind]
  have q28 : (n.kind == 28) = false := by simp [hkind]
  have q20 : (n.kind == 20) = false := by simp [hkind]
  have q9 : (n.kind == 9) = false := by simp [hkind]
  have q10 : (n.kind == 10) = true := by simp [hkind]
  clear hkind
  have hd0 : decide (n.c = 0) = false := by simpa using h0
  have hn0 : ¬ n.c = 0 := by simpa using h0
  have M2 := Aside0.mk ((((Mem.start w).allocAt rfl #[.int .i64 n.kind, .int .i64 n.a, .int .i64 n.b, .int .i64 n.c, .slice A4 n.list.length c4, .slice A5 n.names.length c5, .int .u64 n.num, .int .i64 n.at_] 142).allocAt (g := w.heap.size + 1) (by simp) #[.int .i64 n.a, fnV 0] 153).allocAt (g := w.heap.size + 1 + 1) (by simp) #[.int .i64 n.b, fnV 0] 153)
  go_enter Try.func107, Try.ntmps107
  go_upto_region 25 with fail
  go_region_held3 (fun W => (∀ o, W.cell? ⟨w.heap.size, o, none⟩ = (#[.int .i64 n.kind, .int .i64 n.a, .int .i64 n.b, .int .i64 n.c, .slice A4 n.list.length c4, .slice A5 n.names.length c5, .int .u64 n.num, .int .i64 n.at_] : Array Value)[o]?) ∧ (∀ o, W.cell? ⟨w.heap.size + 1, o, none⟩ = (#[.int .i64 n.a, fnV 0] : Array Value)[o]?) ∧ (∀ o, W.cell? ⟨w.heap.size + 1 + 1, o, none⟩ = (#[.int .i64 n.b, fnV 0] : Array Value)[o]?)) (first | exact ⟨(M2.out.drew).box (.tail _ (.tail _ (.head _))), (M2.out.drew).box (.tail _ (.head _)), (M2.out.drew).box (.head _)⟩ | exact ⟨(M2.out.drew.step (below_alloc (Below.refl _ _) _)).box (.tail _ (.tail _ (.head _))), (M2.out.drew.step (below_alloc (Below.refl _ _) _)).box (.tail _ (.head _)), (M2.out.drew.step (below_alloc (Below.refl _ _) _)).box (.head _)⟩) (fail)
  all_goals (go_wp2; go_ret2; exact ⟨_, by first | rfl | simp [*] | (simp only [*]; rfl), (by first | (refine R_litd _ _ _ [⟨n.a, 0⟩, ⟨n.b, 0⟩] _ _ ?_ ?_ ?_ ?_ ?_ <;> first | rfl | (simp; done) | (simp; omega)) | (refine R_litg _ _ _ [⟨n.a, 0⟩, ⟨n.b, 0⟩] _ _ ?_ ?_ ?_ ?_ ?_ <;> first | rfl | (simp; done) | (simp; omega)) | (refine R_litn _ _ _ [⟨n.a, 0⟩, ⟨n.b, 0⟩] _ _ _ ?_ ?_ ?_ ?_ ?_ <;> first | rfl | (simp; done) | (simp; omega))), by repeat (first | exact Below.refl _ _ | apply below_alloc | apply below_drew1 | apply pw_below_drewN)⟩)
set_option maxHeartbeats 8000000 in
set_option maxRecDepth 100000 in
theorem wants_10_1 (n : Node) (cs : List Value) (w : World) (hk : kNodeI.K w n cs) (hkind : n.kind = 10) (h0 : (n.c == 0) = true) :
    Calls Try.prog 107 #[.agg ⟨cs⟩] w fun e w' => ∃ v, e = .returned (.tuple #[v, .bool true]) ∧ kWant.R 153 w' w.heap.size (fun _ => True) v [⟨n.a, 0⟩, ⟨n.b, 0⟩] ∧ Below w.heap.size w w' := by
  obtain ⟨A4, c4, A5, c5, rfl, h4, g4, h5, g5⟩ := kNodeI_open hk
  clear hk g4 g5 h4 h5
  have q1 : (n.kind == 1) = false := by simp [hkind]
  have q2 : (n.kind == 2) = false := by simp [hkind]
  have q3 : (n.kind == 3) = false := by simp [hkind]
  have q4 : (n.kind == 4) = false := by simp [hkind]
  have q5 : (n.kind == 5) = false := by simp [hkind]
  have q6 : (n.kind == 6) = false := by simp [hkind]
  have q7 : (n.kind == 7) = false := by simp [hkind]
  have q8 : (n.kind == 8) = false := by simp [hkind]
  have q21 : (n.kind == 21) = false := by simp [hkind]
  have q22 : (n.kind == 22) = false := by simp [hkind]
  have q25 : (n.kind == 25) = false := by simp [hkind]
  have q26 : (n.kind == 26) = false := by simp [hkind]
  have q28 : (n.kind == 28) = false := by simp [hkind]
  have q20 : (n.kind == 20) = false := by simp [hkind]
  have q9 : (n.kind == 9) = false := by simp [hkind]
  have q10 : (n.kind == 10) = true := by simp [hkind]
  clear hkind
  have hd0 : decide (n.c = 0) = true := by simpa using h0
  have M2 := Aside0.mk ((((Mem.start w).allocAt rfl #[.int .i64 n.kind, .int .i64 n.a, .int .i64 n.b, .int .i64 n.c, .slice A4 n.list.length c4, .slice A5 n.names.length c5, .int .u64 n.num, .int .i64 n.at_] 142).allocAt (g := w.heap.size + 1) (by simp) #[.int .i64 n.a, fnV 0] 153).allocAt (g := w.heap.size + 1 + 1) (by simp) #[.int .i64 n.b, fnV 0] 153)
  go_enter Try.func107, Try.ntmps107
  go_upto_region 25 with fail
  go_region_held3 (fun W => (∀ o, W.cell? ⟨w.heap.size, o, none⟩ = (#[.int .i64 n.kind, .int .i64 n.a, .int .i64 n.b, .int .i64 n.c, .slice A4 n.list.length c4, .slice A5 n.names.length c5, .int .u64 n.num, .int .i64 n.at_] : Array Value)[o]?) ∧ (∀ o, W.cell? ⟨w.heap.size + 1, o, none⟩ = (#[.int .i64 n.a, fnV 0] : Array Value)[o]?) ∧ (∀ o, W.cell? ⟨w.heap.size + 1 + 1, o, none⟩ = (#[.int .i64 n.b, fnV 0] : Array Value)[o]?)) (first | exact ⟨(M2.out.drew).box (.tail _ (.tail _ (.head _))), (M2.out.drew).box (.tail _ (.head _)), (M2.out.drew).box (.head _)⟩ | exact ⟨(M2.out.drew.step (below_alloc (Below.refl _ _) _)).box (.tail _ (.tail _ (.head _))), (M2.out.drew.step (below_alloc (Below.refl _ _) _)).box (.tail _ (.head _)), (M2.out.drew.step (below_alloc (Below.refl _ _) _)).box (.head _)⟩) (fail)
  all_goals (go_wp2; go_ret2; exact ⟨_, by first | rfl | simp [*] | (simp only [*]; rfl), (by first | (refine R_litd _ _ _ [⟨n.a, 0⟩, ⟨n.b, 0⟩] _ _ ?_ ?_ ?_ ?_ ?_ <;> first | rfl | (simp; done) | (simp; omega)) | (refine R_litg _ _ _ [⟨n.a, 0⟩, ⟨n.b, 0⟩] _ _ ?_ ?_ ?_ ?_ ?_ <;> first | rfl | (simp; done) | (simp; omega)) | (refine R_litn _ _ _ [⟨n.a, 0⟩, ⟨n.b, 0⟩] _ _ _ ?_ ?_ ?_ ?_ ?_ <;> first | rfl | (simp; done) | (simp; omega))), by repeat (first | exact Below.refl _ _ | apply below_alloc | apply below_drew1 | apply pw_below_drewN)⟩)
set_option maxHeartbeats 8000000 in
set_option maxRecDepth 100000 in
theorem wants_11_0 (n : Node) (cs : List Value) (w : World) (hk : kNodeI.K w n cs) (hkind : n.kind = 11) (h0 : (n.c == 0) = false) :
    Calls Try.prog 107 #[.agg ⟨cs⟩] w fun e w' => ∃ v, e = .returned (.tuple #[v, .bool false]) ∧ kWant.R 153 w' w.heap.size (fun _ => True) v [⟨n.a, 0⟩, ⟨n.b, 0⟩] ∧ Below w.heap.size w w' := by
  obtain ⟨A4, c4, A5, c5, rfl, h4, g4, h5, g5⟩ := kNodeI_open hk
  clear hk g4 g5 h4 h5
  have q1 : (n.kind == 1) = false := by simp [hkind]
  have q2 : (n.kind == 2) = false := by simp [hkind]
  have q3 : (n.kind == 3) = false := by simp [hkind]
  have q4 : (n.kind == 4) = false := by simp [hkind]
  have q5 : (n.kind == 5) = false := by simp [hkind]
  have q6 : (n.kind == 6) = false := by simp [hkind]
  have q7 : (n.kind == 7) = false := by simp [hkind]
  have q8 : (n.kind == 8) = false := by simp [hkind]
  have q21 : (n.kind == 21) = false := by simp [hkind]
  have q22 : (n.kind == 22) = false := by simp [hkind]
  have q25 : (n.kind == 25) = false := by simp [hkind]
  have q26 : (n.kind == 26) = false := by simp [hkind]
  have q28 : (n.kind == 28) = false := by simp [hkind]
  have q20 : (n.kind == 20) = false := by simp [hkind]
  have q9 : (n.kind == 9) = false := by simp [hkind]
  have q10 : (n.kind == 10) = false := by simp [hkind]
  have q11 : (n.kind == 11) = true := by simp [hkind]
  clear hkind
  have hd0 : decide (n.c = 0) = false := by simpa using h0
  have hn0 : ¬ n.c = 0 := by simpa using h0
  have M2 := Aside0.mk ((((Mem.start w).allocAt rfl #[.int .i64 n.kind, .int .i64 n.a, .int .i64 n.b, .int .i64 n.c, .slice A4 n.list.length c4, .slice A5 n.names.length c5, .int .u64 n.num, .int .i64 n.at_] 142).allocAt (g := w.heap.size + 1) (by simp) #[.int .i64 n.a, fnV 0] 153).allocAt (g := w.heap.size + 1 + 1) (by simp) #[.int .i64 n.b, fnV 0] 153)
  go_enter Try.func107, Try.ntmps107
  go_upto_region 25 with fail
  go_region_held3 (fun W => (∀ o, W.cell? ⟨w.heap.size, o, none⟩ = (#[.int .i64 n.kind, .int .i64 n.a, .int .i64 n.b, .int .i64 n.c, .slice A4 n.list.length c4, .slice A5 n.names.length c5, .int .u64 n.num, .int .i64 n.at_] : Array Value)[o]?) ∧ (∀ o, W.cell? ⟨w.heap.size + 1, o, none⟩ = (#[.int .i64 n.a, fnV 0] : Array Value)[o]?) ∧ (∀ o, W.cell? ⟨w.heap.size + 1 + 1, o, none⟩ = (#[.int .i64 n.b, fnV 0] : Array Value)[o]?)) (first | exact ⟨(M2.out.drew).box (.tail _ (.tail _ (.head _))), (M2.out.drew).box (.tail _ (.head _)), (M2.out.drew).box (.head _)⟩ | exact ⟨(M2.out.drew.step (below_alloc (Below.refl _ _) _)).box (.tail _ (.tail _ (.head _))), (M2.out.drew.step (below_alloc (Below.refl _ _) _)).box (.tail _ (.head _)), (M2.out.drew.step (below_alloc (Below.refl _ _) _)).box (.head _)⟩) (fail)
  all_goals (go_wp2; go_ret2; exact ⟨_, by first | rfl | simp [*] | (simp only [*]; rfl), (by first | (refine R_litd _ _ _ [⟨n.a, 0⟩, ⟨n.b, 0⟩] _ _ ?_ ?_ ?_ ?_ ?_ <;> first | rfl | (simp; done) | (simp; omega)) | (refine R_litg _ _ _ [⟨n.a, 0⟩, ⟨n.b, 0⟩] _ _ ?_ ?_ ?_ ?_ ?_ <;> first | rfl | (simp; done) | (simp; omega)) | (refine R_litn _ _ _ [⟨n.a, 0⟩, ⟨n.b, 0⟩] _ _ _ ?_ ?_ ?_ ?_ ?_ <;> first | rfl | (simp; done) | (simp; omega))), by repeat (first | exact Below.refl _ _ | apply below_alloc | apply below_drew1 | apply pw_below_drewN)⟩)
set_option maxHeartbeats 8000000 in
set_option maxRecDepth 100000 in
theorem wants_11_1 (n : Node) (cs : List Value) (w : World) (hk : kNodeI.K w n cs) (hkind : n.kind = 11) (h0 : (n.c == 0) = true) :
    Calls Try.prog 107 #[.agg ⟨cs⟩] w fun e w' => ∃ v, e = .returned (.tuple #[v, .bool true]) ∧ kWant.R 153 w' w.heap.size (fun _ => True) v [⟨n.a, 0⟩, ⟨n.b, 0⟩] ∧ Below w.heap.size w w' := by
  obtain ⟨A4, c4, A5, c5, rfl, h4, g4, h5, g5⟩ := kNodeI_open hk
  clear hk g4 g5 h4 h5
  have q1 : (n.kind == 1) = false := by simp [hkind]
  have q2 : (n.kind == 2) = false := by simp [hkind]
  have q3 : (n.kind == 3) = false := by simp [hkind]
  have q4 : (n.kind == 4) = false := by simp [hkind]
  have q5 : (n.kind == 5) = false := by simp [hkind]
  have q6 : (n.kind == 6) = false := by simp [hkind]
  have q7 : (n.kind == 7) = false := by simp [hkind]
  have q8 : (n.kind == 8) = false := by simp [hkind]
  have q21 : (n.kind == 21) = false := by simp [hkind]
  have q22 : (n.kind == 22) = false := by simp [hkind]
  have q25 : (n.kind == 25) = false := by simp [hkind]
  have q26 : (n.kind == 26) = false := by simp [hkind]
  have q28 : (n.kind == 28) = false := by simp [hkind]
  have q20 : (n.kind == 20) = false := by simp [hkind]
  have q9 : (n.kind == 9) = false := by simp [hkind]
  have q10 : (n.kind == 10) = false := by simp [hkind]
  have q11 : (n.kind == 11) = true := by simp [hkind]
  clear hkind
  have hd0 : decide (n.c = 0) = true := by simpa using h0
  have M2 := Aside0.mk ((((Mem.start w).allocAt rfl #[.int .i64 n.kind, .int .i64 n.a, .int .i64 n.b, .int .i64 n.c, .slice A4 n.list.length c4, .slice A5 n.names.length c5, .int .u64 n.num, .int .i64 n.at_] 142).allocAt (g := w.heap.size + 1) (by simp) #[.int .i64 n.a, fnV 0] 153).allocAt (g := w.heap.size + 1 + 1) (by simp) #[.int .i64 n.b, fnV 0] 153)
  go_enter Try.func107, Try.ntmps107
  go_upto_region 25 with fail
  go_region_held3 (fun W => (∀ o, W.cell? ⟨w.heap.size, o, none⟩ = (#[.int .i64 n.kind, .int .i64 n.a, .int .i64 n.b, .int .i64 n.c, .slice A4 n.list.length c4, .slice A5 n.names.length c5, .int .u64 n.num, .int .i64 n.at_] : Array Value)[o]?) ∧ (∀ o, W.cell? ⟨w.heap.size + 1, o, none⟩ = (#[.int .i64 n.a, fnV 0] : Array Value)[o]?) ∧ (∀ o, W.cell? ⟨w.heap.size + 1 + 1, o, none⟩ = (#[.int .i64 n.b, fnV 0] : Array Value)[o]?)) (first | exact ⟨(M2.out.drew).box (.tail _ (.tail _ (.head _))), (M2.out.drew).box (.tail _ (.head _)), (M2.out.drew).box (.head _)⟩ | exact ⟨(M2.out.drew.step (below_alloc (Below.refl _ _) _)).box (.tail _ (.tail _ (.head _))), (M2.out.drew.step (below_alloc (Below.refl _ _) _)).box (.tail _ (.head _)), (M2.out.drew.step (below_alloc (Below.refl _ _) _)).box (.head _)⟩) (fail)
  all_goals (go_wp2; go_ret2; exact ⟨_, by first | rfl | simp [*] | (simp only [*]; rfl), (by first | (refine R_litd _ _ _ [⟨n.a, 0⟩, ⟨n.b, 0⟩] _ _ ?_ ?_ ?_ ?_ ?_ <;> first | rfl | (simp; done) | (simp; omega)) | (refine R_litg _ _ _ [⟨n.a, 0⟩, ⟨n.b, 0⟩] _ _ ?_ ?_ ?_ ?_ ?_ <;> first | rfl | (simp; done) | (simp; omega)) | (refine R_litn _ _ _ [⟨n.a, 0⟩, ⟨n.b, 0⟩] _ _ _ ?_ ?_ ?_ ?_ ?_ <;> first | rfl | (simp; done) | (simp; omega))), by repeat (first | exact Below.refl _ _ | apply below_alloc | apply below_drew1 | apply pw_below_drewN)⟩)
set_option maxHeartbeats 8000000 in
set_option maxRecDepth 100000 in
theorem wants_24_0 (n : Node) (cs : List Value) (w : World) (hk : kNodeI.K w n cs) (hkind : n.kind = 24) (h0 : (n.c == 0) = false) :
    Calls Try.prog 107 #[.agg ⟨cs⟩] w fun e w' => ∃ v, e = .returned (.tuple #[v, .bool false]) ∧ kWant.R 153 w' w.heap.size (fun _ => True) v [⟨n.a, 0⟩, ⟨n.b, 1⟩] ∧ Below w.heap.size w w' := by
  obtain ⟨A4, c4, A5, c5, rfl, h4, g4, h5, g5⟩ := kNodeI_open hk
  clear hk g4 g5 h4 h5
  have q1 : (n.kind == 1) = false := by simp [hkind]
  have q2 : (n.kind == 2) = false := by simp [hkind]
  have q3 : (n.kind == 3) = false := by simp [hkind]
  have q4 : (n.kind == 4) = false := by simp [hkind]
  have q5 : (n.kind == 5) = false := by simp [hkind]
  have q6 : (n.kind == 6) = false := by simp [hkind]
  have q7 : (n.kind == 7) = false := by simp [hkind]
  have q8 : (n.kind == 8) = false := by simp [hkind]
  have q21 : (n.kind == 21) = false := by simp [hkind]
  have q22 : (n.kind == 22) = false := by simp [hkind]
  have q25 : (n.kind == 25) = false := by simp [hkind]
  have q26 : (n.kind == 26) = false := by simp [hkind]
  have q28 : (n.kind == 28) = false := by simp [hkind]
  have q20 : (n.kind == 20) = false := by simp [hkind]
  have q9 : (n.kind == 9) = false := by simp [hkind]
  have q10 : (n.kind == 10) = false := by simp [hkind]
  have q11 : (n.kind == 11) = false := by simp [hkind]
  have q13 : (n.kind == 13) = false := by simp [hkind]
  have q24 : (n.kind == 24) = true := by simp [hkind]
  clear hkind
  have hd0 : decide (n.c = 0) = false := by simpa using h0
  have hn0 : ¬ n.c = 0 := by simpa using h0
  have M2 := Aside0.mk ((((Mem.start w).allocAt rfl #[.int .i64 n.kind, .int .i64 n.a, .int .i64 n.b, .int .i64 n.c, .slice A4 n.list.length c4, .slice A5 n.names.length c5, .int .u64 n.num, .int .i64 n.at_] 142).allocAt (g := w.heap.size + 1) (by simp) #[.int .i64 n.a, fnV 0] 153).allocAt (g := w.heap.size + 1 + 1) (by simp) #[.int .i64 n.b, fnV 0] 153)
  go_enter Try.func107, Try.ntmps107
  go_upto_region 29 with fail
  go_region_held3 (fun W => (∀ o, W.cell? ⟨w.heap.size, o, none⟩ = (#[.int .i64 n.kind, .int .i64 n.a, .int .i64 n.b, .int .i64 n.c, .slice A4 n.list.length c4, .slice A5 n.names.length c5, .int .u64 n.num, .int .i64 n.at_] : Array Value)[o]?) ∧ (∀ o, W.cell? ⟨w.heap.size + 1, o, none⟩ = (#[.int .i64 n.a, fnV 0] : Array Value)[o]?) ∧ (∀ o, W.cell? ⟨w.heap.size + 1 + 1, o, none⟩ = (#[.int .i64 n.b, fnV 0] : Array Value)[o]?)) (first | exact ⟨(M2.out.drew).box (.tail _ (.tail _ (.head _))), (M2.out.drew).box (.tail _ (.head _)), (M2.out.drew).box (.head _)⟩ | exact ⟨(M2.out.drew.step (below_alloc (Below.refl _ _) _)).box (.tail _ (.tail _ (.head _))), (M2.out.drew.step (below_alloc (Below.refl _ _) _)).box (.tail _ (.head _)), (M2.out.drew.step (below_alloc (Below.refl _ _) _)).box (.head _)⟩) (fail)
  all_goals (go_wp2; go_ret2; exact ⟨_, by first | rfl | simp [*] | (simp only [*]; rfl), (by first | (refine R_litd _ _ _ [⟨n.a, 0⟩, ⟨n.b, 1⟩] _ _ ?_ ?_ ?_ ?_ ?_ <;> first | rfl | (simp; done) | (simp; omega)) | (refine R_litg _ _ _ [⟨n.a, 0⟩, ⟨n.b, 1⟩] _ _ ?_ ?_ ?_ ?_ ?_ <;> first | rfl | (simp; done) | (simp; omega)) | (refine R_litn _ _ _ [⟨n.a, 0⟩, ⟨n.b, 1⟩] _ _ _ ?_ ?_ ?_ ?_ ?_ <;> first | rfl | (simp; done) | (simp; omega))), by repeat (first | exact Below.refl _ _ | apply below_alloc | apply below_drew1 | apply pw_below_drewN)⟩)
set_option maxHeartbeats 8000000 in
set_option maxRecDepth 100000 in
theorem wants_24_1 (n : Node) (cs : List Value) (w : World) (hk : kNodeI.K w n cs) (hkind : n.kind = 24) (h0 : (n.c == 0) = true) :
    Calls Try.prog 107 #[.agg ⟨cs⟩] w fun e w' => ∃ v, e = .returned (.tuple #[v, .bool true]) ∧ kWant.R 153 w' w.heap.size (fun _ => True) v [⟨n.a, 0⟩, ⟨n.b, 1⟩] ∧ Below w.heap.size w w' := by
  obtain ⟨A4, c4, A5, c5, rfl, h4, g4, h5, g5⟩ := kNodeI_open hk
  clear hk g4 g5 h4 h5
  have q1 : (n.kind == 1) = false := by simp [hkind]
  have q2 : (n.kind == 2) = false := by simp [hkind]
  have q3 : (n.kind == 3) = false := by simp [hkind]
  have q4 : (n.kind == 4) = false := by simp [hkind]
  have q5 : (n.kind == 5) = false := by simp [hkind]
  have q6 : (n.kind == 6) = false := by simp [hkind]
  have q7 : (n.kind == 7) = false := by simp [hkind]
  have q8 : (n.kind == 8) = false := by simp [hkind]
  have q21 : (n.kind == 21) = false := by simp [hkind]
  have q22 : (n.kind == 22) = false := by simp [hkind]
  have q25 : (n.kind == 25) = false := by simp [hkind]
  have q26 : (n.kind == 26) = false := by simp [hkind]
  have q28 : (n.kind == 28) = false := by simp [hkind]
  have q20 : (n.kind == 20) = false := by simp [hkind]
  have q9 : (n.kind == 9) = false := by simp [hkind]
  have q10 : (n.kind == 10) = false := by simp [hkind]
  have q11 : (n.kind == 11) = false := by simp [hkind]
  have q13 : (n.kind == 13) = false := by simp [hkind]
  have q24 : (n.kind == 24) = true := by simp [hkind]
  clear hkind
  have hd0 : decide (n.c = 0) = true := by simpa using h0
  have M2 := Aside0.mk ((((Mem.start w).allocAt rfl #[.int .i64 n.kind, .int .i64 n.a, .int .i64 n.b, .int .i64 n.c, .slice A4 n.list.length c4, .slice A5 n.names.length c5, .int .u64 n.num, .int .i64 n.at_] 142).allocAt (g := w.heap.size + 1) (by simp) #[.int .i64 n.a, fnV 0] 153).allocAt (g := w.heap.size + 1 + 1) (by simp) #[.int .i64 n.b, fnV 0] 153)
  go_enter Try.func107, Try.ntmps107
  go_upto_region 29 with fail
  go_region_held3 (fun W => (∀ o, W.cell? ⟨w.heap.size, o, none⟩ = (#[.int .i64 n.kind, .int .i64 n.a, .int .i64 n.b, .int .i64 n.c, .slice A4 n.list.length c4, .slice A5 n.names.length c5, .int .u64 n.num, .int .i64 n.at_] : Array Value)[o]?) ∧ (∀ o, W.cell? ⟨w.heap.size + 1, o, none⟩ = (#[.int .i64 n.a, fnV 0] : Array Value)[o]?) ∧ (∀ o, W.cell? ⟨w.heap.size + 1 + 1, o, none⟩ = (#[.int .i64 n.b, fnV 0] : Array Value)[o]?)) (first | exact ⟨(M2.out.drew).box (.tail _ (.tail _ (.head _))), (M2.out.drew).box (.tail _ (.head _)), (M2.out.drew).box (.head _)⟩ | exact ⟨(M2.out.drew.step (below_alloc (Below.refl _ _) _)).box (.tail _ (.tail _ (.head _))), (M2.out.drew.step (below_alloc (Below.refl _ _) _)).box (.tail _ (.head _)), (M2.out.drew.step (below_alloc (Below.refl _ _) _)).box (.head _)⟩) (fail)
  all_goals (go_wp2; go_ret2; exact ⟨_, by first | rfl | simp [*] | (simp only [*]; rfl), (by first | (refine R_litd _ _ _ [⟨n.a, 0⟩, ⟨n.b, 1⟩] _ _ ?_ ?_ ?_ ?_ ?_ <;> first | rfl | (simp; done) | (simp; omega)) | (refine R_litg _ _ _ [⟨n.a, 0⟩, ⟨n.b, 1⟩] _ _ ?_ ?_ ?_ ?_ ?_ <;> first | rfl | (simp; done) | (simp; omega)) | (refine R_litn _ _ _ [⟨n.a, 0⟩, ⟨n.b, 1⟩] _ _ _ ?_ ?_ ?_ ?_ ?_ <;> first | rfl | (simp; done) | (simp; omega))), by repeat (first | exact Below.refl _ _ | apply below_alloc | apply below_drew1 | apply pw_below_drewN)⟩)
set_option maxHeartbeats 8000000 in
set_option maxRecDepth 100000 in
theorem wants_27_0 (n : Node) (cs : List Value) (w : World) (hk : kNodeI.K w n cs) (hkind : n.kind = 27) (h0 : (n.c == 0) = false) :
    Calls Try.prog 107 #[.agg ⟨cs⟩] w fun e w' => ∃ v, e = .returned (.tuple #[v, .bool false]) ∧ kWant.R 153 w' w.heap.size (fun _ => True) v [⟨n.a, 1⟩, ⟨n.b, 1⟩] ∧ Below w.heap.size w w' := by
  obtain ⟨A4, c4, A5, c5, rfl, h4, g4, h5, g5⟩ := kNodeI_open hk
  clear hk g4 g5 h4 h5
  have q1 : (n.kind == 1) = false := by simp [hkind]
  have q2 : (n.kind == 2) = false := by simp [hkind]
  have q3 : (n.kind == 3) = false := by simp [hkind]
  have q4 : (n.kind == 4) = false := by simp [hkind]
  have q5 : (n.kind == 5) = false := by simp [hkind]
  have q6 : (n.kind == 6) = false := by simp [hkind]
  have q7 : (n.kind == 7) = false := by simp [hkind]
  have q8 : (n.kind == 8) = false := by simp [hkind]
  have q21 : (n.kind == 21) = false := by simp [hkind]
  have q22 : (n.kind == 22) = false := by simp [hkind]
  have q25 : (n.kind == 25) = false := by simp [hkind]
  have q26 : (n.kind == 26) = false := by simp [hkind]
  have q28 : (n.kind == 28) = false := by simp [hkind]
  have q20 : (n.kind == 20) = false := by simp [hkind]
  have q9 : (n.kind == 9) = false := by simp [hkind]
  have q10 : (n.kind == 10) = false := by simp [hkind]
  have q11 : (n.kind == 11) = false := by simp [hkind]
  have q13 : (n.kind == 13) = false := by simp [hkind]
  have q24 : (n.kind == 24) = false := by simp [hkind]
  have q27 : (n.kind == 27) = true := by simp [hkind]
  clear hkind
  have hd0 : decide (n.c = 0) = false := by simpa using h0
  have hn0 : ¬ n.c = 0 := by simpa using h0
  have M2 := Aside0.mk ((((Mem.start w).allocAt rfl #[.int .i64 n.kind, .int .i64 n.a, .int .i64 n.b, .int .i64 n.c, .slice A4 n.list.length c4, .slice A5 n.names.length c5, .int .u64 n.num, .int .i64 n.at_] 142).allocAt (g := w.heap.size + 1) (by simp) #[.int .i64 n.a, fnV 0] 153).allocAt (g := w.heap.size + 1 + 1) (by simp) #[.int .i64 n.b, fnV 0] 153)
  go_enter Try.func107, Try.ntmps107
  go_upto_region 31 with fail
  go_region_held3 (fun W => (∀ o, W.cell? ⟨w.heap.size, o, none⟩ = (#[.int .i64 n.kind, .int .i64 n.a, .int .i64 n.b, .int .i64 n.c, .slice A4 n.list.length c4, .slice A5 n.names.length c5, .int .u64 n.num, .int .i64 n.at_] : Array Value)[o]?) ∧ (∀ o, W.cell? ⟨w.heap.size + 1, o, none⟩ = (#[.int .i64 n.a, fnV 0] : Array Value)[o]?) ∧ (∀ o, W.cell? ⟨w.heap.size + 1 + 1, o, none⟩ = (#[.int .i64 n.b, fnV 0] : Array Value)[o]?)) (first | exact ⟨(M2.out.drew).box (.tail _ (.tail _ (.head _))), (M2.out.drew).box (.tail _ (.head _)), (M2.out.drew).box (.head _)⟩ | exact ⟨(M2.out.drew.step (below_alloc (Below.refl _ _) _)).box (.tail _ (.tail _ (.head _))), (M2.out.drew.step (below_alloc (Below.refl _ _) _)).box (.tail _ (.head _)), (M2.out.drew.step (below_alloc (Below.refl _ _) _)).box (.head _)⟩) (fail)
  all_goals (go_wp2; go_ret2; exact ⟨_, by first | rfl | simp [*] | (simp only [*]; rfl), (by first | (refine R_litd _ _ _ [⟨n.a, 1⟩, ⟨n.b, 1⟩] _ _ ?_ ?_ ?_ ?_ ?_ <;> first | rfl | (simp; done) | (simp; omega)) | (refine R_litg _ _ _ [⟨n.a, 1⟩, ⟨n.b, 1⟩] _ _ ?_ ?_ ?_ ?_ ?_ <;> first | rfl | (simp; done) | (simp; omega)) | (refine R_litn _ _ _ [⟨n.a, 1⟩, ⟨n.b, 1⟩] _ _ _ ?_ ?_ ?_ ?_ ?_ <;> first | rfl | (simp; done) | (simp; omega))), by repeat (first | exact Below.refl _ _ | apply below_alloc | apply below_drew1 | apply pw_below_drewN)⟩)
set_option maxHeartbeats 8000000 in
set_option maxRecDepth 100000 in
theorem wants_27_1 (n : Node) (cs : List Value) (w : World) (hk : kNodeI.K w n cs) (hkind : n.kind = 27) (h0 : (n.c == 0) = true) :
    Calls Try.prog 107 #[.agg ⟨cs⟩] w fun e w' => ∃ v, e = .returned (.tuple #[v, .bool true]) ∧ kWant.R 153 w' w.heap.size (fun _ => True) v [⟨n.a, 1⟩, ⟨n.b, 1⟩] ∧ Below w.heap.size w w' := by
  obtain ⟨A4, c4, A5, c5, rfl, h4, g4, h5, g5⟩ := kNodeI_open hk
  clear hk g4 g5 h4 h5
  have q1 : (n.kind == 1) = false := by simp [hkind]
  have q2 : (n.kind == 2) = false := by simp [hkind]
  have q3 : (n.kind == 3) = false := by simp [hkind]
  have q4 : (n.kind == 4) = false := by simp [hkind]
  have q5 : (n.kind == 5) = false := by simp [hkind]
  have q6 : (n.kind == 6) = false := by simp [hkind]
  have q7 : (n.kind == 7) = false := by simp [hkind]
  have q8 : (n.kind == 8) = false := by simp [hkind]
  have q21 : (n.kind == 21) = false := by simp [hkind]
  have q22 : (n.kind == 22) = false := by simp [hkind]
  have q25 : (n.kind == 25) = false := by simp [hkind]
  have q26 : (n.kind == 26) = false := by simp [hkind]
  have q28 : (n.kind == 28) = false := by simp [hkind]
  have q20 : (n.kind == 20) = false := by simp [hkind]
  have q9 : (n.kind == 9) = false := by simp [hkind]
  have q10 : (n.kind == 10) = false := by simp [hkind]
  have q11 : (n.kind == 11) = false := by simp [hkind]
  have q13 : (n.kind == 13) = false := by simp [hkind]
  have q24 : (n.kind == 24) = false := by simp [hkind]
  have q27 : (n.kind == 27) = true := by simp [hkind]
  clear hkind
  have hd0 : decide (n.c = 0) = true := by simpa using h0
  have M2 := Aside0.mk ((((Mem.start w).allocAt rfl #[.int .i64 n.kind, .int .i64 n.a, .int .i64 n.b, .int .i64 n.c, .slice A4 n.list.length c4, .slice A5 n.names.length c5, .int .u64 n.num, .int .i64 n.at_] 142).allocAt (g := w.heap.size + 1) (by simp) #[.int .i64 n.a, fnV 0] 153).allocAt (g := w.heap.size + 1 + 1) (by simp) #[.int .i64 n.b, fnV 0] 153)
  go_enter Try.func107, Try.ntmps107
  go_upto_region 31 with fail
  go_region_held3 (fun W => (∀ o, W.cell? ⟨w.heap.size, o, none⟩ = (#[.int .i64 n.kind, .int .i64 n.a, .int .i64 n.b, .int .i64 n.c, .slice A4 n.list.length c4, .slice A5 n.names.length c5, .int .u64 n.num, .int .i64 n.at_] : Array Value)[o]?) ∧ (∀ o, W.cell? ⟨w.heap.size + 1, o, none⟩ = (#[.int .i64 n.a, fnV 0] : Array Value)[o]?) ∧ (∀ o, W.cell? ⟨w.heap.size + 1 + 1, o, none⟩ = (#[.int .i64 n.b, fnV 0] : Array Value)[o]?)) (first | exact ⟨(M2.out.drew).box (.tail _ (.tail _ (.head _))), (M2.out.drew).box (.tail _ (.head _)), (M2.out.drew).box (.head _)⟩ | exact ⟨(M2.out.drew.step (below_alloc (Below.refl _ _) _)).box (.tail _ (.tail _ (.head _))), (M2.out.drew.step (below_alloc (Below.refl _ _) _)).box (.tail _ (.head _)), (M2.out.drew.step (below_alloc (Below.refl _ _) _)).box (.head _)⟩) (fail)
  all_goals (go_wp2; go_ret2; exact ⟨_, by first | rfl | simp [*] | (simp only [*]; rfl), (by first | (refine R_litd _ _ _ [⟨n.a, 1⟩, ⟨n.b, 1⟩] _ _ ?_ ?_ ?_ ?_ ?_ <;> first | rfl | (simp; done) | (simp; omega)) | (refine R_litg _ _ _ [⟨n.a, 1⟩, ⟨n.b, 1⟩] _ _ ?_ ?_ ?_ ?_ ?_ <;> first | rfl | (simp; done) | (simp; omega)) | (refine R_litn _ _ _ [⟨n.a, 1⟩, ⟨n.b, 1⟩] _ _ _ ?_ ?_ ?_ ?_ ?_ <;> first | rfl | (simp; done) | (simp; omega))), by repeat (first | exact Below.refl _ _ | apply below_alloc | apply below_drew1 | apply pw_below_drewN)⟩)
end Go.Proofs.Ytlhfhfamifmijaa.LeafN
end
