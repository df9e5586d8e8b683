/- Part 18 of the proof: general lemmas, contracts of functions, walks. No condition of its own. -/
import Derived.Deep.RegionHeld3
import Derived.Test.YtlhfhfamifmijaaK16
section
namespace Go.Proofs.Ytlhfhfamifmijaa.LeafN
open Go.RowKit Go.Proofs.YtlhfhfamifmijaaW.PrintWords Go.Proofs.YtlhfhfamifmijaaW.PrintMore Go.Proofs.Ytlhfhfamifmijaa.Law Go.Proofs.Ytlhfhfamifmijaa.Num Go.Proofs.Ytlhfhfamifmijaa
set_option linter.unusedVariables false
set_option linter.unusedSimpArgs false
set_option autoImplicit false
set_option maxHeartbeats 8000000 in
set_option maxRecDepth 100000 in
theorem wants_7_0 (n : Node) (cs : List Value) (w : World) (hk : kNodeI.K w n cs) (hkind : n.kind = 7) (h0 : (n.b == 0) = false) :
    Calls Try.prog 107 #[.agg ⟨cs⟩] w fun e w' => ∃ v, e = .returned (.tuple #[v, .bool false]) ∧ kWant.R 153 w' w.heap.size (fun _ => True) v [⟨n.a, 0⟩] ∧ Below w.heap.size w w' := by
  obtain ⟨A4, c4, A5, c5, rfl, h4, g4, h5, g5⟩ := kNodeI_open hk
  clear hk g4 g5 h4 h5
  have q1 : (n.kind == 1) = false := by simp [hkind]
  have q2 : (n.kind == 2) = false := by simp [hkind]
  have q3 : (n.kind == 3) = false := by simp [hkind]
  have q4 : (n.kind == 4) = false := by simp [hkind]
  have q5 : (n.kind == 5) = false := by simp [hkind]
  have q6 : (n.kind == 6) = false := by simp [hkind]
  have q7 : (n.kind == 7) = true := by simp [hkind]
  clear hkind
  have hd0 : decide (n.b = 0) = false := by simpa using h0
  have hn0 : ¬ n.b = 0 := by simpa using h0
  have M2 := Aside0.mk ((((Mem.start w).allocAt rfl #[.int .i64 n.kind, .int .i64 n.a, .int .i64 n.b, .int .i64 n.c, .slice A4 n.list.length c4, .slice A5 n.names.length c5, .int .u64 n.num, .int .i64 n.at_] 142).allocAt (g := w.heap.size + 1) (by simp) #[.int .i64 n.a, fnV 0] 153).allocAt (g := w.heap.size + 1 + 1) (by simp) #[.int .i64 n.b, fnV 0] 153)
  go_enter Try.func107, Try.ntmps107
  go_upto_region 18 with fail
  refine wp_region_held_drew (S := (fun W => (∀ o, W.cell? ⟨w.heap.size, o, none⟩ = (#[.int .i64 n.kind, .int .i64 n.a, .int .i64 n.b, .int .i64 n.c, .slice A4 n.list.length c4, .slice A5 n.names.length c5, .int .u64 n.num, .int .i64 n.at_] : Array Value)[o]?) ∧ (∀ o, W.cell? ⟨w.heap.size + 1, o, none⟩ = (#[.int .i64 n.a, fnV 0] : Array Value)[o]?) ∧ (∀ o, W.cell? ⟨w.heap.size + 1 + 1, o, none⟩ = (#[.int .i64 n.b, fnV 0] : Array Value)[o]?))) (by kernel_rfl) ?_ (fun hHeld => ?_)
  · first | exact ⟨(M2.out.drew).box (.tail _ (.tail _ (.head _))), (M2.out.drew).box (.tail _ (.head _)), (M2.out.drew).box (.head _)⟩ | exact ⟨(M2.out.drew.step (below_alloc (Below.refl _ _) _)).box (.tail _ (.tail _ (.head _))), (M2.out.drew.step (below_alloc (Below.refl _ _) _)).box (.tail _ (.head _)), (M2.out.drew.step (below_alloc (Below.refl _ _) _)).box (.head _)⟩
  refine wpAnyH_take (i := 0) (oi := _) (v := ?v0_1) rfl (by kernel_rfl) (by kernel_rfl) (by kernel_rfl) (fun _ _ _ h => h) (Or.inl ⟨by rfl, ?hy0_1⟩) (by assumption) ?rest0_1
  case hy0_1 => (intro w hSw; (try dsimp only at hSw); go_simp; try with_reducible rfl)
  try simp only [Act.put, List.getElem_toArray, List.getElem_cons_zero, List.getElem_cons_succ, List.setIfInBounds_toArray, List.set_cons_zero, List.set_cons_succ]
  refine wpAnyH_take (i := 2) (oi := _) (v := ?v2_2) rfl (by kernel_rfl) (by kernel_rfl) (by kernel_rfl) (fun _ _ _ h => h) (Or.inl ⟨by rfl, ?hy2_2⟩) (by assumption) ?rest2_2
  case hy2_2 => (intro w hSw; (try dsimp only at hSw); go_simp; try with_reducible rfl)
  try simp only [Act.put, List.getElem_toArray, List.getElem_cons_zero, List.getElem_cons_succ, List.setIfInBounds_toArray, List.set_cons_zero, List.set_cons_succ]
  refine wpAnyH_take (i := 3) (oi := _) (v := ?v3_3) rfl (by kernel_rfl) (by kernel_rfl) (by kernel_rfl) (fun _ _ _ h => h) (Or.inl ⟨by rfl, ?hy3_3⟩) (by assumption) ?rest3_3
  case hy3_3 => (intro w hSw; (try dsimp only at hSw); go_simp; try with_reducible rfl)
  try simp only [Act.put, List.getElem_toArray, List.getElem_cons_zero, List.getElem_cons_succ, List.setIfInBounds_toArray, List.set_cons_zero, List.set_cons_succ]
  refine wpAnyH_take (i := 4) (oi := _) (v := ?v4_4) rfl (by kernel_rfl) (by kernel_rfl) (by kernel_rfl) (fun _ _ _ h => h) (Or.inl ⟨by rfl, ?hy4_4⟩) (by assumption) ?rest4_4
  case hy4_4 => (intro w hSw; (try dsimp only at hSw); go_simp; try with_reducible rfl)
  try simp only [Act.put, List.getElem_toArray, List.getElem_cons_zero, List.getElem_cons_succ, List.setIfInBounds_toArray, List.set_cons_zero, List.set_cons_succ]
  refine wpAnyH_take (i := 5) (oi := _) (v := ?v5_5) rfl (by kernel_rfl) (by kernel_rfl) (by kernel_rfl) (fun _ _ _ h => h) (Or.inl ⟨by rfl, ?hy5_5⟩) (by assumption) ?rest5_5
  case hy5_5 => (intro w hSw; (try dsimp only at hSw); go_simp; try with_reducible rfl)
  try simp only [Act.put, List.getElem_toArray, List.getElem_cons_zero, List.getElem_cons_succ, List.setIfInBounds_toArray, List.set_cons_zero, List.set_cons_succ]
  refine wpAnyH_take (i := 6) (oi := _) (v := undef) rfl (by kernel_rfl) (by kernel_rfl) (by kernel_rfl) (fun _ _ _ h => h) (Or.inr ⟨by kernel_rfl, rfl⟩) (by assumption) ?_
  try simp only [Act.put, List.getElem_toArray, List.getElem_cons_zero, List.getElem_cons_succ, List.setIfInBounds_toArray, List.set_cons_zero, List.set_cons_succ]
  refine wpAnyH_take (i := 7) (oi := _) (v := undef) rfl (by kernel_rfl) (by kernel_rfl) (by kernel_rfl) (fun _ _ _ h => h) (Or.inr ⟨by kernel_rfl, rfl⟩) (by assumption) ?_
  try simp only [Act.put, List.getElem_toArray, List.getElem_cons_zero, List.getElem_cons_succ, List.setIfInBounds_toArray, List.set_cons_zero, List.set_cons_succ]
  refine wpAnyH_take (i := 8) (oi := _) (v := undef) rfl (by kernel_rfl) (by kernel_rfl) (by kernel_rfl) (fun _ _ _ h => h) (Or.inr ⟨by kernel_rfl, rfl⟩) (by assumption) ?_
  try simp only [Act.put, List.getElem_toArray, List.getElem_cons_zero, List.getElem_cons_succ, List.setIfInBounds_toArray, List.set_cons_zero, List.set_cons_succ]
  refine wpAnyH_take (i := 9) (oi := _) (v := ?v9_6) rfl (by kernel_rfl) (by kernel_rfl) (by kernel_rfl) (fun _ _ _ h => h) (Or.inl ⟨by rfl, ?hy9_6⟩) (by assumption) ?rest9_6
  case hy9_6 => (intro w hSw; (try dsimp only at hSw); go_simp; try with_reducible rfl)
  try simp only [Act.put, List.getElem_toArray, List.getElem_cons_zero, List.getElem_cons_succ, List.setIfInBounds_toArray, List.set_cons_zero, List.set_cons_succ]
  refine wpAnyH_ready (rs := [1]) (by kernel_rfl) (by simp) ?_
  refine AllReadyH.cons (o := _) rfl (fun K hK => ?_) AllReadyH.nil
  go_simp
  refine hK.out _ _ ?_ (fun hHeld => ?_)
  · first | exact ⟨(M2.out.drew).box (.tail _ (.tail _ (.head _))), (M2.out.drew).box (.tail _ (.head _)), (M2.out.drew).box (.head _)⟩ | exact ⟨(M2.out.drew.step (below_alloc (Below.refl _ _) _)).box (.tail _ (.tail _ (.head _))), (M2.out.drew.step (below_alloc (Below.refl _ _) _)).box (.tail _ (.head _)), (M2.out.drew.step (below_alloc (Below.refl _ _) _)).box (.head _)⟩
  clear hK K
  try simp only [Act.put, List.getElem_toArray, List.getElem_cons_zero, List.getElem_cons_succ, List.setIfInBounds_toArray, List.set_cons_zero, List.set_cons_succ]
  refine wpAnyH_take (i := 10) (oi := _) (v := ?v10_7) rfl (by kernel_rfl) (by kernel_rfl) (by kernel_rfl) (fun _ _ _ h => h) (Or.inl ⟨by rfl, ?hy10_7⟩) (by assumption) ?rest10_7
  case hy10_7 => (intro w hSw; (try dsimp only at hSw); go_simp; try with_reducible rfl)
  try simp only [Act.put, List.getElem_toArray, List.getElem_cons_zero, List.getElem_cons_succ, List.setIfInBounds_toArray, List.set_cons_zero, List.set_cons_succ]
  refine wpAnyH_take (i := 11) (oi := _) (v := ?v11_8) rfl (by kernel_rfl) (by kernel_rfl) (by kernel_rfl) (fun _ _ _ h => h) (Or.inl ⟨by rfl, ?hy11_8⟩) (by assumption) ?rest11_8
  case hy11_8 => (intro w hSw; (try dsimp only at hSw); go_simp; try with_reducible rfl)
  try simp only [Act.put, List.getElem_toArray, List.getElem_cons_zero, List.getElem_cons_succ, List.setIfInBounds_toArray, List.set_cons_zero, List.set_cons_succ]
  refine wpAnyH_done (by kernel_rfl) ?_ _
  go_wp2; go_ret2; exact ⟨_, by first | rfl | simp [*] | (simp only [*]; rfl), (by first | (refine R_litd _ _ _ [⟨n.a, 0⟩] _ _ ?_ ?_ ?_ ?_ ?_ <;> first | rfl | (simp; done) | (simp; omega)) | (refine R_litg _ _ _ [⟨n.a, 0⟩] _ _ ?_ ?_ ?_ ?_ ?_ <;> first | rfl | (simp; done) | (simp; omega)) | (refine R_litn _ _ _ [⟨n.a, 0⟩] _ _ _ ?_ ?_ ?_ ?_ ?_ <;> first | rfl | (simp; done) | (simp; omega))), by repeat (first | exact Below.refl _ _ | apply below_alloc | apply below_drew1 | apply pw_below_drewN)⟩
set_option maxHeartbeats 8000000 in
set_option maxRecDepth 100000 in
theorem wants_7_1 (n : Node) (cs : List Value) (w : World) (hk : kNodeI.K w n cs) (hkind : n.kind = 7) (h0 : (n.b == 0) = true) (h1 : (n.c == 0) = false) :
    Calls Try.prog 107 #[.agg ⟨cs⟩] w fun e w' => ∃ v, e = .returned (.tuple #[v, .bool false]) ∧ kWant.R 153 w' w.heap.size (fun _ => True) v [⟨n.a, 0⟩] ∧ Below w.heap.size w w' := by
  obtain ⟨A4, c4, A5, c5, rfl, h4, g4, h5, g5⟩ := kNodeI_open hk
  clear hk g4 g5 h4 h5
  have q1 : (n.kind == 1) = false := by simp [hkind]
  have q2 : (n.kind == 2) = false := by simp [hkind]
  have q3 : (n.kind == 3) = false := by simp [hkind]
  have q4 : (n.kind == 4) = false := by simp [hkind]
  have q5 : (n.kind == 5) = false := by simp [hkind]
  have q6 : (n.kind == 6) = false := by simp [hkind]
  have q7 : (n.kind == 7) = true := by simp [hkind]
  clear hkind
  have hd0 : decide (n.b = 0) = true := by simpa using h0
  have hd1 : decide (n.c = 0) = false := by simpa using h1
  have hn1 : ¬ n.c = 0 := by simpa using h1
  have M2 := Aside0.mk ((((Mem.start w).allocAt rfl #[.int .i64 n.kind, .int .i64 n.a, .int .i64 n.b, .int .i64 n.c, .slice A4 n.list.length c4, .slice A5 n.names.length c5, .int .u64 n.num, .int .i64 n.at_] 142).allocAt (g := w.heap.size + 1) (by simp) #[.int .i64 n.a, fnV 0] 153).allocAt (g := w.heap.size + 1 + 1) (by simp) #[.int .i64 n.b, fnV 0] 153)
  go_enter Try.func107, Try.ntmps107
  go_upto_region 18 with fail
  go_region_held3 (fun W => (∀ o, W.cell? ⟨w.heap.size, o, none⟩ = (#[.int .i64 n.kind, .int .i64 n.a, .int .i64 n.b, .int .i64 n.c, .slice A4 n.list.length c4, .slice A5 n.names.length c5, .int .u64 n.num, .int .i64 n.at_] : Array Value)[o]?) ∧ (∀ o, W.cell? ⟨w.heap.size + 1, o, none⟩ = (#[.int .i64 n.a, fnV 0] : Array Value)[o]?) ∧ (∀ o, W.cell? ⟨w.heap.size + 1 + 1, o, none⟩ = (#[.int .i64 n.b, fnV 0] : Array Value)[o]?)) (first | exact ⟨(M2.out.drew).box (.tail _ (.tail _ (.head _))), (M2.out.drew).box (.tail _ (.head _)), (M2.out.drew).box (.head _)⟩ | exact ⟨(M2.out.drew.step (below_alloc (Below.refl _ _) _)).box (.tail _ (.tail _ (.head _))), (M2.out.drew.step (below_alloc (Below.refl _ _) _)).box (.tail _ (.head _)), (M2.out.drew.step (below_alloc (Below.refl _ _) _)).box (.head _)⟩) (fail)
  all_goals (go_wp2; go_ret2; exact ⟨_, by first | rfl | simp [*] | (simp only [*]; rfl), (by first | (refine R_litd _ _ _ [⟨n.a, 0⟩] _ _ ?_ ?_ ?_ ?_ ?_ <;> first | rfl | (simp; done) | (simp; omega)) | (refine R_litg _ _ _ [⟨n.a, 0⟩] _ _ ?_ ?_ ?_ ?_ ?_ <;> first | rfl | (simp; done) | (simp; omega)) | (refine R_litn _ _ _ [⟨n.a, 0⟩] _ _ _ ?_ ?_ ?_ ?_ ?_ <;> first | rfl | (simp; done) | (simp; omega))), by repeat (first | exact Below.refl _ _ | apply below_alloc | apply below_drew1 | apply pw_below_drewN)⟩)
set_option maxHeartbeats 8000000 in
set_option maxRecDepth 100000 in
theorem wants_7_2 (n : Node) (cs : List Value) (w : World) (hk : kNodeI.K w n cs) (hkind : n.kind = 7) (h0 : (n.b == 0) = true) (h1 : (n.c == 0) = true) :
    Calls Try.prog 107 #[.agg ⟨cs⟩] w fun e w' => ∃ v, e = .returned (.tuple #[v, .bool true]) ∧ kWant.R 153 w' w.heap.size (fun _ => True) v [⟨n.a, 0⟩] ∧ Below w.heap.size w w' := by
  obtain ⟨A4, c4, A5, c5, rfl, h4, g4, h5, g5⟩ := kNodeI_open hk
  clear hk g4 g5 h4 h5
  have q1 : (n.kind == 1) = false := by simp [hkind]
  have q2 : (n.kind == 2) = false := by simp [hkind]
  have q3 : (n.kind == 3) = false := by simp [hkind]
  have q4 : (n.kind == 4) = false := by simp [hkind]
  have q5 : (n.kind == 5) = false := by simp [hkind]
  have q6 : (n.kind == 6) = false := by simp [hkind]
  have q7 : (n.kind == 7) = true := by simp [hkind]
  clear hkind
  have hd0 : decide (n.b = 0) = true := by simpa using h0
  have hd1 : decide (n.c = 0) = true := by simpa using h1
  have M2 := Aside0.mk ((((Mem.start w).allocAt rfl #[.int .i64 n.kind, .int .i64 n.a, .int .i64 n.b, .int .i64 n.c, .slice A4 n.list.length c4, .slice A5 n.names.length c5, .int .u64 n.num, .int .i64 n.at_] 142).allocAt (g := w.heap.size + 1) (by simp) #[.int .i64 n.a, fnV 0] 153).allocAt (g := w.heap.size + 1 + 1) (by simp) #[.int .i64 n.b, fnV 0] 153)
  go_enter Try.func107, Try.ntmps107
  go_upto_region 18 with fail
  go_region_held3 (fun W => (∀ o, W.cell? ⟨w.heap.size, o, none⟩ = (#[.int .i64 n.kind, .int .i64 n.a, .int .i64 n.b, .int .i64 n.c, .slice A4 n.list.length c4, .slice A5 n.names.length c5, .int .u64 n.num, .int .i64 n.at_] : Array Value)[o]?) ∧ (∀ o, W.cell? ⟨w.heap.size + 1, o, none⟩ = (#[.int .i64 n.a, fnV 0] : Array Value)[o]?) ∧ (∀ o, W.cell? ⟨w.heap.size + 1 + 1, o, none⟩ = (#[.int .i64 n.b, fnV 0] : Array Value)[o]?)) (first | exact ⟨(M2.out.drew).box (.tail _ (.tail _ (.head _))), (M2.out.drew).box (.tail _ (.head _)), (M2.out.drew).box (.head _)⟩ | exact ⟨(M2.out.drew.step (below_alloc (Below.refl _ _) _)).box (.tail _ (.tail _ (.head _))), (M2.out.drew.step (below_alloc (Below.refl _ _) _)).box (.tail _ (.head _)), (M2.out.drew.step (below_alloc (Below.refl _ _) _)).box (.head _)⟩) (fail)
  all_goals (go_wp2; go_ret2; exact ⟨_, by first | rfl | simp [*] | (simp only [*]; rfl), (by first | (refine R_litd _ _ _ [⟨n.a, 0⟩] _ _ ?_ ?_ ?_ ?_ ?_ <;> first | rfl | (simp; done) | (simp; omega)) | (refine R_litg _ _ _ [⟨n.a, 0⟩] _ _ ?_ ?_ ?_ ?_ ?_ <;> first | rfl | (simp; done) | (simp; omega)) | (refine R_litn _ _ _ [⟨n.a, 0⟩] _ _ _ ?_ ?_ ?_ ?_ ?_ <;> first | rfl | (simp; done) | (simp; omega))), by repeat (first | exact Below.refl _ _ | apply below_alloc | apply below_drew1 | apply pw_below_drewN)⟩)
set_option maxHeartbeats 8000000 in
set_option maxRecDepth 100000 in
theorem wants_8_0 (n : Node) (cs : List Value) (w : World) (hk : kNodeI.K w n cs) (hkind : n.kind = 8) (h0 : (n.b == 0) = false) :
    Calls Try.prog 107 #[.agg ⟨cs⟩] w fun e w' => ∃ v, e = .returned (.tuple #[v, .bool false]) ∧ kWant.R 153 w' w.heap.size (fun _ => True) v [⟨n.a, 0⟩] ∧ Below w.heap.size w w' := by
  obtain ⟨A4, c4, A5, c5, rfl, h4, g4, h5, g5⟩ := kNodeI_open hk
  clear hk g4 g5 h4 h5
  have q1 : (n.kind == 1) = false := by simp [hkind]
  have q2 : (n.kind == 2) = false := by simp [hkind]
  have q3 : (n.kind == 3) = false := by simp [hkind]
  have q4 : (n.kind == 4) = false := by simp [hkind]
  have q5 : (n.kind == 5) = false := by simp [hkind]
  have q6 : (n.kind == 6) = false := by simp [hkind]
  have q7 : (n.kind == 7) = false := by simp [hkind]
  have q8 : (n.kind == 8) = true := by simp [hkind]
  clear hkind
  have hd0 : decide (n.b = 0) = false := by simpa using h0
  have hn0 : ¬ n.b = 0 := by simpa using h0
  have M2 := Aside0.mk ((((Mem.start w).allocAt rfl #[.int .i64 n.kind, .int .i64 n.a, .int .i64 n.b, .int .i64 n.c, .slice A4 n.list.length c4, .slice A5 n.names.length c5, .int .u64 n.num, .int .i64 n.at_] 142).allocAt (g := w.heap.size + 1) (by simp) #[.int .i64 n.a, fnV 0] 153).allocAt (g := w.heap.size + 1 + 1) (by simp) #[.int .i64 n.b, fnV 0] 153)
  go_enter Try.func107, Try.ntmps107
  go_upto_region 18 with fail
  refine wp_region_held_drew (S := (fun W => (∀ o, W.cell? ⟨w.heap.size, o, none⟩ = (#[.int .i64 n.kind, .int .i64 n.a, .int .i64 n.b, .int .i64 n.c, .slice A4 n.list.length c4, .slice A5 n.names.length c5, .int .u64 n.num, .int .i64 n.at_] : Array Value)[o]?) ∧ (∀ o, W.cell? ⟨w.heap.size + 1, o, none⟩ = (#[.int .i64 n.a, fnV 0] : Array Value)[o]?) ∧ (∀ o, W.cell? ⟨w.heap.size + 1 + 1, o, none⟩ = (#[.int .i64 n.b, fnV 0] : Array Value)[o]?))) (by kernel_rfl) ?_ (fun hHeld => ?_)
  · first | exact ⟨(M2.out.drew).box (.tail _ (.tail _ (.head _))), (M2.out.drew).box (.tail _ (.head _)), (M2.out.drew).box (.head _)⟩ | exact ⟨(M2.out.drew.step (below_alloc (Below.refl _ _) _)).box (.tail _ (.tail _ (.head _))), (M2.out.drew.step (below_alloc (Below.refl _ _) _)).box (.tail _ (.head _)), (M2.out.drew.step (below_alloc (Below.refl _ _) _)).box (.head _)⟩
  refine wpAnyH_take (i := 0) (oi := _) (v := ?v0_1) rfl (by kernel_rfl) (by kernel_rfl) (by kernel_rfl) (fun _ _ _ h => h) (Or.inl ⟨by rfl, ?hy0_1⟩) (by assumption) ?rest0_1
  case hy0_1 => (intro w hSw; (try dsimp only at hSw); go_simp; try with_reducible rfl)
  try simp only [Act.put, List.getElem_toArray, List.getElem_cons_zero, List.getElem_cons_succ, List.setIfInBounds_toArray, List.set_cons_zero, List.set_cons_succ]
  refine wpAnyH_take (i := 2) (oi := _) (v := ?v2_2) rfl (by kernel_rfl) (by kernel_rfl) (by kernel_rfl) (fun _ _ _ h => h) (Or.inl ⟨by rfl, ?hy2_2⟩) (by assumption) ?rest2_2
  case hy2_2 => (intro w hSw; (try dsimp only at hSw); go_simp; try with_reducible rfl)
  try simp only [Act.put, List.getElem_toArray, List.getElem_cons_zero, List.getElem_cons_succ, List.setIfInBounds_toArray, List.set_cons_zero, List.set_cons_succ]
  refine wpAnyH_take (i := 3) (oi := _) (v := ?v3_3) rfl (by kernel_rfl) (by kernel_rfl) (by kernel_rfl) (fun _ _ _ h => h) (Or.inl ⟨by rfl, ?hy3_3⟩) (by assumption) ?rest3_3
  case hy3_3 => (intro w hSw; (try dsimp only at hSw); go_simp; try with_reducible rfl)
  try simp only [Act.put, List.getElem_toArray, List.getElem_cons_zero, List.getElem_cons_succ, List.setIfInBounds_toArray, List.set_cons_zero, List.set_cons_succ]
  refine wpAnyH_take (i := 4) (oi := _) (v := ?v4_4) rfl (by kernel_rfl) (by kernel_rfl) (by kernel_rfl) (fun _ _ _ h => h) (Or.inl ⟨by rfl, ?hy4_4⟩) (by assumption) ?rest4_4
  case hy4_4 => (intro w hSw; (try dsimp only at hSw); go_simp; try with_reducible rfl)
  try simp only [Act.put, List.getElem_toArray, List.getElem_cons_zero, List.getElem_cons_succ, List.setIfInBounds_toArray, List.set_cons_zero, List.set_cons_succ]
  refine wpAnyH_take (i := 5) (oi := _) (v := ?v5_5) rfl (by kernel_rfl) (by kernel_rfl) (by kernel_rfl) (fun _ _ _ h => h) (Or.inl ⟨by rfl, ?hy5_5⟩) (by assumption) ?rest5_5
  case hy5_5 => (intro w hSw; (try dsimp only at hSw); go_simp; try with_reducible rfl)
  try simp only [Act.put, List.getElem_toArray, List.getElem_cons_zero, List.getElem_cons_succ, List.setIfInBounds_toArray, List.set_cons_zero, List.set_cons_succ]
  refine wpAnyH_take (i := 6) (oi := _) (v := undef) rfl (by kernel_rfl) (by kernel_rfl) (by kernel_rfl) (fun _ _ _ h => h) (Or.inr ⟨by kernel_rfl, rfl⟩) (by assumption) ?_
  try simp only [Act.put, List.getElem_toArray, List.getElem_cons_zero, List.getElem_cons_succ, List.setIfInBounds_toArray, List.set_cons_zero, List.set_cons_succ]
  refine wpAnyH_take (i := 7) (oi := _) (v := undef) rfl (by kernel_rfl) (by kernel_rfl) (by kernel_rfl) (fun _ _ _ h => h) (Or.inr ⟨by kernel_rfl, rfl⟩) (by assumption) ?_
  try simp only [Act.put, List.getElem_toArray, List.getElem_cons_zero, List.getElem_cons_succ, List.setIfInBounds_toArray, List.set_cons_zero, List.set_cons_succ]
  refine wpAnyH_take (i := 8) (oi := _) (v := undef) rfl (by kernel_rfl) (by kernel_rfl) (by kernel_rfl) (fun _ _ _ h => h) (Or.inr ⟨by kernel_rfl, rfl⟩) (by assumption) ?_
  try simp only [Act.put, List.getElem_toArray, List.getElem_cons_zero, List.getElem_cons_succ, List.setIfInBounds_toArray, List.set_cons_zero, List.set_cons_succ]
  refine wpAnyH_take (i := 9) (oi := _) (v := ?v9_6) rfl (by kernel_rfl) (by kernel_rfl) (by kernel_rfl) (fun _ _ _ h => h) (Or.inl ⟨by rfl, ?hy9_6⟩) (by assumption) ?rest9_6
  case hy9_6 => (intro w hSw; (try dsimp only at hSw); go_simp; try with_reducible rfl)
  try simp only [Act.put, List.getElem_toArray, List.getElem_cons_zero, List.getElem_cons_succ, List.setIfInBounds_toArray, List.set_cons_zero, List.set_cons_succ]
  refine wpAnyH_ready (rs := [1]) (by kernel_rfl) (by simp) ?_
  refine AllReadyH.cons (o := _) rfl (fun K hK => ?_) AllReadyH.nil
  go_simp
  refine hK.out _ _ ?_ (fun hHeld => ?_)
  · first | exact ⟨(M2.out.drew).box (.tail _ (.tail _ (.head _))), (M2.out.drew).box (.tail _ (.head _)), (M2.out.drew).box (.head _)⟩ | exact ⟨(M2.out.drew.step (below_alloc (Below.refl _ _) _)).box (.tail _ (.tail _ (.head _))), (M2.out.drew.step (below_alloc (Below.refl _ _) _)).box (.tail _ (.head _)), (M2.out.drew.step (below_alloc (Below.refl _ _) _)).box (.head _)⟩
  clear hK K
  try simp only [Act.put, List.getElem_toArray, List.getElem_cons_zero, List.getElem_cons_succ, List.setIfInBounds_toArray, List.set_cons_zero, List.set_cons_succ]
  refine wpAnyH_take (i := 10) (oi := _) (v := ?v10_7) rfl (by kernel_rfl) (by kernel_rfl) (by kernel_rfl) (fun _ _ _ h => h) (Or.inl ⟨by rfl, ?hy10_7⟩) (by assumption) ?rest10_7
  case hy10_7 => (intro w hSw; (try dsimp only at hSw); go_simp; try with_reducible rfl)
  try simp only [Act.put, List.getElem_toArray, List.getElem_cons_zero, List.getElem_cons_succ, List.setIfInBounds_toArray, List.set_cons_zero, List.set_cons_succ]
  refine wpAnyH_take (i := 11) (oi := _) (v := ?v11_8) rfl (by kernel_rfl) (by kernel_rfl) (by kernel_rfl) (fun _ _ _ h => h) (Or.inl ⟨by rfl, ?hy11_8⟩) (by assumption) ?rest11_8
  case hy11_8 => (intro w hSw; (try dsimp only at hSw); go_simp; try with_reducible rfl)
  try simp only [Act.put, List.getElem_toArray, List.getElem_cons_zero, List.getElem_cons_succ, List.setIfInBounds_toArray, List.set_cons_zero, List.set_cons_succ]
  refine wpAnyH_done (by kernel_rfl) ?_ _
  go_wp2; go_ret2; exact ⟨_, by first | rfl | simp [*] | (simp only [*]; rfl), (by first | (refine R_litd _ _ _ [⟨n.a, 0⟩] _ _ ?_ ?_ ?_ ?_ ?_ <;> first | rfl | (simp; done) | (simp; omega)) | (refine R_litg _ _ _ [⟨n.a, 0⟩] _ _ ?_ ?_ ?_ ?_ ?_ <;> first | rfl | (simp; done) | (simp; omega)) | (refine R_litn _ _ _ [⟨n.a, 0⟩] _ _ _ ?_ ?_ ?_ ?_ ?_ <;> first | rfl | (simp; done) | (simp; omega))), by repeat (first | exact Below.refl _ _ | apply below_alloc | apply below_drew1 | apply pw_below_drewN)⟩
set_option maxHeartbeats 8000000 in
set_option maxRecDepth 100000 in
theorem wants_8_1 (n : Node) (cs : List Value) (w : World) (hk : kNodeI.K w n cs) (hkind : n.kind = 8) (h0 : (n.b == 0) = true) (h1 : (n.c == 0) = false) :
    Calls Try.prog 107 #[.agg ⟨cs⟩] w fun e w' => ∃ v, e = .returned (.tuple #[v, .bool false]) ∧ kWant.R 153 w' w.heap.size (fun _ => True) v [⟨n.a, 0⟩] ∧ Below w.heap.size w w' := by
  obtain ⟨A4, c4, A5, c5, rfl, h4, g4, h5, g5⟩ := kNodeI_open hk
  clear hk g4 g5 h4 h5
  have q1 : (n.kind == 1) = false := by simp [hkind]
  have q2 : (n.kind == 2) = false := by simp [hkind]
  have q3 : (n.kind == 3) = false := by simp [hkind]
  have q4 : (n.kind == 4) = false := by simp [hkind]
  have q5 : (n.kind == 5) = false := by simp [hkind]
  have q6 : (n.kind == 6) = false := by simp [hkind]
  have q7 : (n.kind == 7) = false := by simp [hkind]
  have q8 : (n.kind == 8) = true := by simp [hkind]
  clear hkind
  have hd0 : decide (n.b = 0) = true := by simpa using h0
  have hd1 : decide (n.c = 0) = false := by simpa using h1
  have hn1 : ¬ n.c = 0 := by simpa using h1
  have M2 := Aside0.mk ((((Mem.start w).allocAt rfl #[.int .i64 n.kind, .int .i64 n.a, .int .i64 n.b, .int .i64 n.c, .slice A4 n.list.length c4, .slice A5 n.names.length c5, .int .u64 n.num, .int .i64 n.at_] 142).allocAt (g := w.heap.size + 1) (by simp) #[.int .i64 n.a, fnV 0] 153).allocAt (g := w.heap.size + 1 + 1) (by simp) #[.int .i64 n.b, fnV 0] 153)
  go_enter Try.func107, Try.ntmps107
  go_upto_region 18 with fail
  go_region_held3 (fun W => (∀ o, W.cell? ⟨w.heap.size, o, none⟩ = (#[.int .i64 n.kind, .int .i64 n.a, .int .i64 n.b, .int .i64 n.c, .slice A4 n.list.length c4, .slice A5 n.names.length c5, .int .u64 n.num, .int .i64 n.at_] : Array Value)[o]?) ∧ (∀ o, W.cell? ⟨w.heap.size + 1, o, none⟩ = (#[.int .i64 n.a, fnV 0] : Array Value)[o]?) ∧ (∀ o, W.cell? ⟨w.heap.size + 1 + 1, o, none⟩ = (#[.int .i64 n.b, fnV 0] : Array Value)[o]?)) (first | exact ⟨(M2.out.drew).box (.tail _ (.tail _ (.head _))), (M2.out.drew).box (.tail _ (.head _)), (M2.out.drew).box (.head _)⟩ | exact ⟨(M2.out.drew.step (below_alloc (Below.refl _ _) _)).box (.tail _ (.tail _ (.head _))), (M2.out.drew.step (below_alloc (Below.refl _ _) _)).box (.tail _ (.head _)), (M2.out.drew.step (below_alloc (Below.refl _ _) _)).box (.head _)⟩) (fail)
  all_goals (go_wp2; go_ret2; exact ⟨_, by first | rfl | simp [*] | (simp only [*]; rfl), (by first | (refine R_litd _ _ _ [⟨n.a, 0⟩] _ _ ?_ ?_ ?_ ?_ ?_ <;> first | rfl | (simp; done) | (simp; omega)) | (refine R_litg _ _ _ [⟨n.a, 0⟩] _ _ ?_ ?_ ?_ ?_ ?_ <;> first | rfl | (simp; done) | (simp; omega)) | (refine R_litn _ _ _ [⟨n.a, 0⟩] _ _ _ ?_ ?_ ?_ ?_ ?_ <;> first | rfl | (simp; done) | (simp; omega))), by repeat (first | exact Below.refl _ _ | apply below_alloc | apply below_drew1 | apply pw_below_drewN)⟩)
set_option maxHeartbeats 8000000 in
set_option maxRecDepth 100000 in
theorem wants_8_2 (n : Node) (cs : List Value) (w : World) (hk : kNodeI.K w n cs) (hkind : n.kind = 8) (h0 : (n.b == 0) = true) (h1 : (n.c == 0) = true) :
    Calls Try.prog 107 #[.agg ⟨cs⟩] w fun e w' => ∃ v, e = .returned (.tuple #[v, .bool true]) ∧ kWant.R 153 w' w.heap.size (fun _ => True) v [⟨n.a, 0⟩] ∧ Below w.heap.size w w' := by
  obtain ⟨A4, c4, A5, c5, rfl, h4, g4, h5, g5⟩ := kNodeI_open hk
  clear hk g4 g5 h4 h5
  have q1 : (n.kind == 1) = false := by simp [hkind]
  have q2 : (n.kind == 2) = false := by simp [hkind]
  have q3 : (n.kind == 3) = false := by simp [hkind]
  have q4 : (n.kind == 4) = false := by simp [hkind]
  have q5 : (n.kind == 5) = false := by simp [hkind]
  have q6 : (n.kind == 6) = false := by simp [hkind]
  have q7 : (n.kind == 7) = false := by simp [hkind]
  have q8 : (n.kind == 8) = true := by simp [hkind]
  clear hkind
  have hd0 : decide (n.b = 0) = true := by simpa using h0
  have hd1 : decide (n.c = 0) = true := by simpa using h1
  have M2 := Aside0.mk ((((Mem.start w).allocAt rfl #[.int .i64 n.kind, .int .i64 n.a, .int .i64 n.b, .int .i64 n.c, .slice A4 n.list.length c4, .slice A5 n.names.length c5, .int .u64 n.num, .int .i64 n.at_] 142).allocAt (g := w.heap.size + 1) (by simp) #[.int .i64 n.a, fnV 0] 153).allocAt (g := w.heap.size + 1 + 1) (by simp) #[.int .i64 n.b, fnV 0] 153)
  go_enter Try.func107, Try.ntmps107
  go_upto_region 18 with fail
  go_region_held3 (fun W => (∀ o, W.cell? ⟨w.heap.size, o, none⟩ = (#[.int .i64 n.kind, .int .i64 n.a, .int .i64 n.b, .int .i64 n.c, .slice A4 n.list.length c4, .slice A5 n.names.length c5, .int .u64 n.num, .int .i64 n.at_] : Array Value)[o]?) ∧ (∀ o, W.cell? ⟨w.heap.size + 1, o, none⟩ = (#[.int .i64 n.a, fnV 0] : Array Value)[o]?) ∧ (∀ o, W.cell? ⟨w.heap.size + 1 + 1, o, none⟩ = (#[.int .i64 n.b, fnV 0] : Array Value)[o]?)) (first | exact ⟨(M2.out.drew).box (.tail _ (.tail _ (.head _))), (M2.out.drew).box (.tail _ (.head _)), (M2.out.drew).box (.head _)⟩ | exact ⟨(M2.out.drew.step (below_alloc (Below.refl _ _) _)).box (.tail _ (.tail _ (.head _))), (M2.out.drew.step (below_alloc (Below.refl _ _) _)).box (.tail _ (.head _)), (M2.out.drew.step (below_alloc (Below.refl _ _) _)).box (.head _)⟩) (fail)
  all_goals (go_wp2; go_ret2; exact ⟨_, by first | rfl | simp [*] | (simp only [*]; rfl), (by first | (refine R_litd _ _ _ [⟨n.a, 0⟩] _ _ ?_ ?_ ?_ ?_ ?_ <;> first | rfl | (simp; done) | (simp; omega)) | (refine R_litg _ _ _ [⟨n.a, 0⟩] _ _ ?_ ?_ ?_ ?_ ?_ <;> first | rfl | (simp; done) | (simp; omega)) | (refine R_litn _ _ _ [⟨n.a, 0⟩] _ _ _ ?_ ?_ ?_ ?_ ?_ <;> first | rfl | (simp; done) | (simp; omega))), by repeat (first | exact Below.refl _ _ | apply below_alloc | apply below_drew1 | apply pw_below_drewN)⟩)
set_option maxHeartbeats 8000000 in
set_option maxRecDepth 100000 in
theorem wants_21_0 (n : Node) (cs : List Value) (w : World) (hk : kNodeI.K w n cs) (hkind : n.kind = 21) (h0 : (n.b == 0) = false) :
    Calls Try.prog 107 #[.agg ⟨cs⟩] w fun e w' => ∃ v, e = .returned (.tuple #[v, .bool false]) ∧ kWant.R 153 w' w.heap.size (fun _ => True) v [⟨n.a, 0⟩] ∧ Below w.heap.size w w' := by
  obtain ⟨A4, c4, A5, c5, rfl, h4, g4, h5, g5⟩ := kNodeI_open hk
  clear hk g4 g5 h4 h5
  have q1 : (n.kind == 1) = false := by simp [hkind]
  have q2 : (n.kind == 2) = false := by simp [hkind]
  have q3 : (n.kind == 3) = false := by simp [hkind]
  have q4 : (n.kind == 4) = false := by simp [hkind]
  have q5 : (n.kind == 5) = false := by simp [hkind]
  have q6 : (n.kind == 6) = false := by simp [hkind]
  have q7 : (n.kind == 7) = false := by simp [hkind]
  have q8 : (n.kind == 8) = false := by simp [hkind]
  have q21 : (n.kind == 21) = true := by simp [hkind]
  clear hkind
  have hd0 : decide (n.b = 0) = false := by simpa using h0
  have hn0 : ¬ n.b = 0 := by simpa using h0
  have M2 := Aside0.mk ((((Mem.start w).allocAt rfl #[.int .i64 n.kind, .int .i64 n.a, .int .i64 n.b, .int .i64 n.c, .slice A4 n.list.length c4, .slice A5 n.names.length c5, .int .u64 n.num, .int .i64 n.at_] 142).allocAt (g := w.heap.size + 1) (by simp) #[.int .i64 n.a, fnV 0] 153).allocAt (g := w.heap.size + 1 + 1) (by simp) #[.int .i64 n.b, fnV 0] 153)
  go_enter Try.func107, Try.ntmps107
  go_upto_region 18 with fail
  refine wp_region_held_drew (S := (fun W => (∀ o, W.cell? ⟨w.heap.size, o, none⟩ = (#[.int .i64 n.kind, .int .i64 n.a, .int .i64 n.b, .int .i64 n.c, .slice A4 n.list.length c4, .slice A5 n.names.length c5, .int .u64 n.num, .int .i64 n.at_] : Array Value)[o]?) ∧ (∀ o, W.cell? ⟨w.heap.size + 1, o, none⟩ = (#[.int .i64 n.a, fnV 0] : Array Value)[o]?) ∧ (∀ o, W.cell? ⟨w.heap.size + 1 + 1, o, none⟩ = (#[.int .i64 n.b, fnV 0] : Array Value)[o]?))) (by kernel_rfl) ?_ (fun hHeld => ?_)
  · first | exact ⟨(M2.out.drew).box (.tail _ (.tail _ (.head _))), (M2.out.drew).box (.tail _ (.head _)), (M2.out.drew).box (.head _)⟩ | exact ⟨(M2.out.drew.step (below_alloc (Below.refl _ _) _)).box (.tail _ (.tail _ (.head _))), (M2.out.drew.step (below_alloc (Below.refl _ _) _)).box (.tail _ (.head _)), (M2.out.drew.step (below_alloc (Below.refl _ _) _)).box (.head _)⟩
  refine wpAnyH_take (i := 0) (oi := _) (v := ?v0_1) rfl (by kernel_rfl) (by kernel_rfl) (by kernel_rfl) (fun _ _ _ h => h) (Or.inl ⟨by rfl, ?hy0_1⟩) (by assumption) ?rest0_1
  case hy0_1 => (intro w hSw; (try dsimp only at hSw); go_simp; try with_reducible rfl)
  try simp only [Act.put, List.getElem_toArray, List.getElem_cons_zero, List.getElem_cons_succ, List.setIfInBounds_toArray, List.set_cons_zero, List.set_cons_succ]
  refine wpAnyH_take (i := 2) (oi := _) (v := ?v2_2) rfl (by kernel_rfl) (by kernel_rfl) (by kernel_rfl) (fun _ _ _ h => h) (Or.inl ⟨by rfl, ?hy2_2⟩) (by assumption) ?rest2_2
  case hy2_2 => (intro w hSw; (try dsimp only at hSw); go_simp; try with_reducible rfl)
  try simp only [Act.put, List.getElem_toArray, List.getElem_cons_zero, List.getElem_cons_succ, List.setIfInBounds_toArray, List.set_cons_zero, List.set_cons_succ]
  refine wpAnyH_take (i := 3) (oi := _) (v := ?v3_3) rfl (by kernel_rfl) (by kernel_rfl) (by kernel_rfl) (fun _ _ _ h => h) (Or.inl ⟨by rfl, ?hy3_3⟩) (by assumption) ?rest3_3
  case hy3_3 => (intro w hSw; (try dsimp only at hSw); go_simp; try with_reducible rfl)
  try simp only [Act.put, List.getElem_toArray, List.getElem_cons_zero, List.getElem_cons_succ, List.setIfInBounds_toArray, List.set_cons_zero, List.set_cons_succ]
  refine wpAnyH_take (i := 4) (oi := _) (v := ?v4_4) rfl (by kernel_rfl) (by kernel_rfl) (by kernel_rfl) (fun _ _ _ h => h) (Or.inl ⟨by rfl, ?hy4_4⟩) (by assumption) ?rest4_4
  case hy4_4 => (intro w hSw; (try dsimp only at hSw); go_simp; try with_reducible rfl)
  try simp only [Act.put, List.getElem_toArray, List.getElem_cons_zero, List.getElem_cons_succ, List.setIfInBounds_toArray, List.set_cons_zero, List.set_cons_succ]
  refine wpAnyH_take (i := 5) (oi := _) (v := ?v5_5) rfl (by kernel_rfl) (by kernel_rfl) (by kernel_rfl) (fun _ _ _ h => h) (Or.inl ⟨by rfl, ?hy5_5⟩) (by assumption) ?rest5_5
  case hy5_5 => (intro w hSw; (try dsimp only at hSw); go_simp; try with_reducible rfl)
  try simp only [Act.put, List.getElem_toArray, List.getElem_cons_zero, List.getElem_cons_succ, List.setIfInBounds_toArray, List.set_cons_zero, List.set_cons_succ]
  refine wpAnyH_take (i := 6) (oi := _) (v := undef) rfl (by kernel_rfl) (by kernel_rfl) (by kernel_rfl) (fun _ _ _ h => h) (Or.inr ⟨by kernel_rfl, rfl⟩) (by assumption) ?_
  try simp only [Act.put, List.getElem_toArray, List.getElem_cons_zero, List.getElem_cons_succ, List.setIfInBounds_toArray, List.set_cons_zero, List.set_cons_succ]
  refine wpAnyH_take (i := 7) (oi := _) (v := undef) rfl (by kernel_rfl) (by kernel_rfl) (by kernel_rfl) (fun _ _ _ h => h) (Or.inr ⟨by kernel_rfl, rfl⟩) (by assumption) ?_
  try simp only [Act.put, List.getElem_toArray, List.getElem_cons_zero, List.getElem_cons_succ, List.setIfInBounds_toArray, List.set_cons_zero, List.set_cons_succ]
  refine wpAnyH_take (i := 8) (oi := _) (v := undef) rfl (by kernel_rfl) (by kernel_rfl) (by kernel_rfl) (fun _ _ _ h => h) (Or.inr ⟨by kernel_rfl, rfl⟩) (by assumption) ?_
  try simp only [Act.put, List.getElem_toArray, List.getElem_cons_zero, List.getElem_cons_succ, List.setIfInBounds_toArray, List.set_cons_zero, List.set_cons_succ]
  refine wpAnyH_take (i := 9) (oi := _) (v := ?v9_6) rfl (by kernel_rfl) (by kernel_rfl) (by kernel_rfl) (fun _ _ _ h => h) (Or.inl ⟨by rfl, ?hy9_6⟩) (by assumption) ?rest9_6
  case hy9_6 => (intro w hSw; (try dsimp only at hSw); go_simp; try with_reducible rfl)
  try simp only [Act.put, List.getElem_toArray, List.getElem_cons_zero, List.getElem_cons_succ, List.setIfInBounds_toArray, List.set_cons_zero, List.set_cons_succ]
  refine wpAnyH_ready (rs := [1]) (by kernel_rfl) (by simp) ?_
  refine AllReadyH.cons (o := _) rfl (fun K hK => ?_) AllReadyH.nil
  go_simp
  refine hK.out _ _ ?_ (fun hHeld => ?_)
  · first | exact ⟨(M2.out.drew).box (.tail _ (.tail _ (.head _))), (M2.out.drew).box (.tail _ (.head _)), (M2.out.drew).box (.head _)⟩ | exact ⟨(M2.out.drew.step (below_alloc (Below.refl _ _) _)).box (.tail _ (.tail _ (.head _))), (M2.out.drew.step (below_alloc (Below.refl _ _) _)).box (.tail _ (.head _)), (M2.out.drew.step (below_alloc (Below.refl _ _) _)).box (.head _)⟩
  clear hK K
  try simp only [Act.put, List.getElem_toArray, List.getElem_cons_zero, List.getElem_cons_succ, List.setIfInBounds_toArray, List.set_cons_zero, List.set_cons_succ]
  refine wpAnyH_take (i := 10) (oi := _) (v := ?v10_7) rfl (by kernel_rfl) (by kernel_rfl) (by kernel_rfl) (fun _ _ _ h => h) (Or.inl ⟨by rfl, ?hy10_7⟩) (by assumption) ?rest10_7
  case hy10_7 => (intro w hSw; (try dsimp only at hSw); go_simp; try with_reducible rfl)
  try simp only [Act.put, List.getElem_toArray, List.getElem_cons_zero, List.getElem_cons_succ, List.setIfInBounds_toArray, List.set_cons_zero, List.set_cons_succ]
  refine wpAnyH_take (i := 11) (oi := _) (v := ?v11_8) rfl (by kernel_rfl) (by kernel_rfl) (by kernel_rfl) (fun _ _ _ h => h) (Or.inl ⟨by rfl, ?hy11_8⟩) (by assumption) ?rest11_8
  case hy11_8 => (intro w hSw; (try dsimp only at hSw); go_simp; try with_reducible rfl)
  try simp only [Act.put, List.getElem_toArray, List.getElem_cons_zero, List.getElem_cons_succ, List.setIfInBounds_toArray, List.set_cons_zero, List.set_cons_succ]
  refine wpAnyH_done (by kernel_rfl) ?_ _
  go_wp2; go_ret2; exact ⟨_, by first | rfl | simp [*] | (simp only [*]; rfl), (by first | (refine R_litd _ _ _ [⟨n.a, 0⟩] _ _ ?_ ?_ ?_ ?_ ?_ <;> first | rfl | (simp; done) | (simp; omega)) | (refine R_litg _ _ _ [⟨n.a, 0⟩] _ _ ?_ ?_ ?_ ?_ ?_ <;> first | rfl | (simp; done) | (simp; omega)) | (refine R_litn _ _ _ [⟨n.a, 0⟩] _ _ _ ?_ ?_ ?_ ?_ ?_ <;> first | rfl | (simp; done) | (simp; omega))), by repeat (first | exact Below.refl _ _ | apply below_alloc | apply below_drew1 | apply pw_below_drewN)⟩
set_option maxHeartbeats 8000000 in
set_option maxRecDepth 100000 in
theorem wants_21_1 (n : Node) (cs : List Value) (w : World) (hk : kNodeI.K w n cs) (hkind : n.kind = 21) (h0 : (n.b == 0) = true) (h1 : (n.c == 0) = false) :
    Calls Try.prog 107 #[.agg ⟨cs⟩] w fun e w' => ∃ v, e = .returned (.tuple #[v, .bool false]) ∧ kWant.R 153 w' w.heap.size (fun _ => True) v [⟨n.a, 0⟩] ∧ Below w.heap.size w w' := by
  obtain ⟨A4, c4, A5, c5, rfl, h4, g4, h5, g5⟩ := kNodeI_open hk
  clear hk g4 g5 h4 h5
  have q1 : (n.kind == 1) = false := by simp [hkind]
  have q2 : (n.kind == 2) = false := by simp [hkind]
  have q3 : (n.kind == 3) = false := by simp [hkind]
  have q4 : (n.kind == 4) = false := by simp [hkind]
  have q5 : (n.kind == 5) = false := by simp [hkind]
  have q6 : (n.kind == 6) = false := by simp [hkind]
  have q7 : (n.kind == 7) = false := by simp [hkind]
  have q8 : (n.kind == 8) = false := by simp [hkind]
  have q21 : (n.kind == 21) = true := by simp [hkind]
  clear hkind
  have hd0 : decide (n.b = 0) = true := by simpa using h0
  have hd1 : decide (n.c = 0) = false := by simpa using h1
  have hn1 : ¬ n.c = 0 := by simpa using h1
  have M2 := Aside0.mk ((((Mem.start w).allocAt rfl #[.int .i64 n.kind, .int .i64 n.a, .int .i64 n.b, .int .i64 n.c, .slice A4 n.list.length c4, .slice A5 n.names.length c5, .int .u64 n.num, .int .i64 n.at_] 142).allocAt (g := w.heap.size + 1) (by simp) #[.int .i64 n.a, fnV 0] 153).allocAt (g := w.heap.size + 1 + 1) (by simp) #[.int .i64 n.b, fnV 0] 153)
  go_enter Try.func107, Try.ntmps107
  go_upto_region 18 with fail
  go_region_held3 (fun W => (∀ o, W.cell? ⟨w.heap.size, o, none⟩ = (#[.int .i64 n.kind, .int .i64 n.a, .int .i64 n.b, .int .i64 n.c, .slice A4 n.list.length c4, .slice A5 n.names.length c5, .int .u64 n.num, .int .i64 n.at_] : Array Value)[o]?) ∧ (∀ o, W.cell? ⟨w.heap.size + 1, o, none⟩ = (#[.int .i64 n.a, fnV 0] : Array Value)[o]?) ∧ (∀ o, W.cell? ⟨w.heap.size + 1 + 1, o, none⟩ = (#[.int .i64 n.b, fnV 0] : Array Value)[o]?)) (first | exact ⟨(M2.out.drew).box (.tail _ (.tail _ (.head _))), (M2.out.drew).box (.tail _ (.head _)), (M2.out.drew).box (.head _)⟩ | exact ⟨(M2.out.drew.step (below_alloc (Below.refl _ _) _)).box (.tail _ (.tail _ (.head _))), (M2.out.drew.step (below_alloc (Below.refl _ _) _)).box (.tail _ (.head _)), (M2.out.drew.step (below_alloc (Below.refl _ _) _)).box (.head _)⟩) (fail)
  all_goals (go_wp2; go_ret2; exact ⟨_, by first | rfl | simp [*] | (simp only [*]; rfl), (by first | (refine R_litd _ _ _ [⟨n.a, 0⟩] _ _ ?_ ?_ ?_ ?_ ?_ <;> first | rfl | (simp; done) | (simp; omega)) | (refine R_litg _ _ _ [⟨n.a, 0⟩] _ _ ?_ ?_ ?_ ?_ ?_ <;> first | rfl | (simp; done) | (simp; omega)) | (refine R_litn _ _ _ [⟨n.a, 0⟩] _ _ _ ?_ ?_ ?_ ?_ ?_ <;> first | rfl | (simp; done) | (simp; omega))), by repeat (first | exact Below.refl _ _ | apply below_alloc | apply below_drew1 | apply pw_below_drewN)⟩)
set_option maxHeartbeats 8000000 in
set_option maxRecDepth 100000 in
theorem wants_21_2 (n : Node) (cs : List Value) (w : World) (hk : kNodeI.K w n cs) (hkind : n.kind = 21) (h0 : (n.b == 0) = true) (h1 : (n.c == 0) = true) :
    Calls Try.prog 107 #[.agg ⟨cs⟩] w fun e w' => ∃ v, e = .returned (.tuple #[v, .bool true]) ∧ kWant.R 153 w' w.heap.size (fun _ => True) v [⟨n.a, 0⟩] ∧ Below w.heap.size w w' := by
  obtain ⟨A4, c4, A5, c5, rfl, h4, g4, h5, g5⟩ := kNodeI_open hk
  clear hk g4 g5 h4 h5
  have q1 : (n.kind == 1) = false := by simp [hkind]
  have q2 : (n.kind == 2) = false := by simp [hkind]
  have q3 : (n.kind == 3) = false := by simp [hkind]
  have q4 : (n.kind == 4) = false := by simp [hkind]
  have q5 : (n.kind == 5) = false := by simp [hkind]
  have q6 : (n.kind == 6) = false := by simp [hkind]
  have q7 : (n.kind == 7) = false := by simp [hkind]
  have q8 : (n.kind == 8) = false := by simp [hkind]
  have q21 : (n.kind == 21) = true := by simp [hkind]
  clear hkind
  have hd0 : decide (n.b = 0) = true := by simpa using h0
  have hd1 : decide (n.c = 0) = true := by simpa using h1
  have M2 := Aside0.mk ((((Mem.start w).allocAt rfl #[.int .i64 n.kind, .int .i64 n.a, .int .i64 n.b, .int .i64 n.c, .slice A4 n.list.length c4, .slice A5 n.names.length c5, .int .u64 n.num, .int .i64 n.at_] 142).allocAt (g := w.heap.size + 1) (by simp) #[.int .i64 n.a, fnV 0] 153).allocAt (g := w.heap.size + 1 + 1) (by simp) #[.int .i64 n.b, fnV 0] 153)
  go_enter Try.func107, Try.ntmps107
  go_upto_region 18 with fail
  go_region_held3 (fun W => (∀ o, W.cell? ⟨w.heap.size, o, none⟩ = (#[.int .i64 n.kind, .int .i64 n.a, .int .i64 n.b, .int .i64 n.c, .slice A4 n.list.length c4, .slice A5 n.names.length c5, .int .u64 n.num, .int .i64 n.at_] : Array Value)[o]?) ∧ (∀ o, W.cell? ⟨w.heap.size + 1, o, none⟩ = (#[.int .i64 n.a, fnV 0] : Array Value)[o]?) ∧ (∀ o, W.cell? ⟨w.heap.size + 1 + 1, o, none⟩ = (#[.int .i64 n.b, fnV 0] : Array Value)[o]?)) (first | exact ⟨(M2.out.drew).box (.tail _ (.tail _ (.head _))), (M2.out.drew).box (.tail _ (.head _)), (M2.out.drew).box (.head _)⟩ | exact ⟨(M2.out.drew.step (below_alloc (Below.refl _ _) _)).box (.tail _ (.tail _ (.head _))), (M2.out.drew.step (below_alloc (Below.refl _ _) _)).box (.tail _ (.head _)), (M2.out.drew.step (below_alloc (Below.refl _ _) _)).box (.head _)⟩) (fail)
  all_goals (go_wp2; go_ret2; exact ⟨_, by first | rfl | simp [*] | (simp only [*]; rfl), (by first | (refine R_litd _ _ _ [⟨n.a, 0⟩] _ _ ?_ ?_ ?_ ?_ ?_ <;> first | rfl | (simp; done) | (simp; omega)) | (refine R_litg _ _ _ [⟨n.a, 0⟩] _ _ ?_ ?_ ?_ ?_ ?_ <;> first | rfl | (simp; done) | (simp; omega)) | (refine R_litn _ _ _ [⟨n.a, 0⟩] _ _ _ ?_ ?_ ?_ ?_ ?_ <;> first | rfl | (simp; done) | (simp; omega))), by repeat (first | exact Below.refl _ _ | apply below_alloc | apply below_drew1 | apply pw_below_drewN)⟩)
end Go.Proofs.Ytlhfhfamifmijaa.LeafN
end
section
namespace Go.Proofs.Ytlhfhfamifmijaa.LeafN
open Go.RowKit Go.Proofs.YtlhfhfamifmijaaW.PrintWords Go.Proofs.YtlhfhfamifmijaaW.PrintMore Go.Proofs.Ytlhfhfamifmijaa.Law Go.Proofs.Ytlhfhfamifmijaa.Num Go.Proofs.Ytlhfhfamifmijaa
set_option linter.unusedVariables false
set_option linter.unusedSimpArgs false
set_option autoImplicit false
set_option maxHeartbeats 8000000 in
set_option maxRecDepth 100000 in
theorem wants_22_0 (n : Node) (cs : List Value) (w : World) (hk : kNodeI.K w n cs) (hkind : n.kind = 22) (h0 : (n.b == 0) = false) :
    Calls Try.prog 107 #[.agg ⟨cs⟩] w fun e w' => ∃ v, e = .returned (.tuple #[v, .bool false]) ∧ kWant.R 153 w' w.heap.size (fun _ => True) v [⟨n.a, 0⟩] ∧ Below w.heap.size w w' := by
  obtain ⟨A4, c4, A5, c5, rfl, h4, g4, h5, g5⟩ := kNodeI_open hk
  clear hk g4 g5 h4 h5
  have q1 : (n.kind == 1) = false := by simp [hkind]
  have q2 : (n.kind == 2) = false := by simp [hkind]
  have q3 : (n.kind == 3) = false := by simp [hkind]
  have q4 : (n.kind == 4) = false := by simp [hkind]
  have q5 : (n.kind == 5) = false := by simp [hkind]
  have q6 : (n.kind == 6) = false := by simp [hkind]
  have q7 : (n.kind == 7) = false := by simp [hkind]
  have q8 : (n.kind == 8) = false := by simp [hkind]
  have q21 : (n.kind == 21) = false := by simp [hkind]
  have q22 : (n.kind == 22) = true := by simp [hkind]
  clear hkind
  have hd0 : decide (n.b = 0) = false := by simpa using h0
  have hn0 : ¬ n.b = 0 := by simpa using h0
  have M2 := Aside0.mk ((((Mem.start w).allocAt rfl #[.int .i64 n.kind, .int .i64 n.a, .int .i64 n.b, .int .i64 n.c, .slice A4 n.list.length c4, .slice A5 n.names.length c5, .int .u64 n.num, .int .i64 n.at_] 142).allocAt (g := w.heap.size + 1) (by simp) #[.int .i64 n.a, fnV 0] 153).allocAt (g := w.heap.size + 1 + 1) (by simp) #[.int .i64 n.b, fnV 0] 153)
  go_enter Try.func107, Try.ntmps107
  go_upto_region 18 with fail
  refine wp_region_held_drew (S := (fun W => (∀ o, W.cell? ⟨w.heap.size, o, none⟩ = (#[.int .i64 n.kind, .int .i64 n.a, .int .i64 n.b, .int .i64 n.c, .slice A4 n.list.length c4, .slice A5 n.names.length c5, .int .u64 n.num, .int .i64 n.at_] : Array Value)[o]?) ∧ (∀ o, W.cell? ⟨w.heap.size + 1, o, none⟩ = (#[.int .i64 n.a, fnV 0] : Array Value)[o]?) ∧ (∀ o, W.cell? ⟨w.heap.size + 1 + 1, o, none⟩ = (#[.int .i64 n.b, fnV 0] : Array Value)[o]?))) (by kernel_rfl) ?_ (fun hHeld => ?_)
  · first | exact ⟨(M2.out.drew).box (.tail _ (.tail _ (.head _))), (M2.out.drew).box (.tail _ (.head _)), (M2.out.drew).box (.head _)⟩ | exact ⟨(M2.out.drew.step (below_alloc (Below.refl _ _) _)).box (.tail _ (.tail _ (.head _))), (M2.out.drew.step (below_alloc (Below.refl _ _) _)).box (.tail _ (.head _)), (M2.out.drew.step (below_alloc (Below.refl _ _) _)).box (.head _)⟩
  refine wpAnyH_take (i := 0) (oi := _) (v := ?v0_1) rfl (by kernel_rfl) (by kernel_rfl) (by kernel_rfl) (fun _ _ _ h => h) (Or.inl ⟨by rfl, ?hy0_1⟩) (by assumption) ?rest0_1
  case hy0_1 => (intro w hSw; (try dsimp only at hSw); go_simp; try with_reducible rfl)
  try simp only [Act.put, List.getElem_toArray, List.getElem_cons_zero, List.getElem_cons_succ, List.setIfInBounds_toArray, List.set_cons_zero, List.set_cons_succ]
  refine wpAnyH_take (i := 2) (oi := _) (v := ?v2_2) rfl (by kernel_rfl) (by kernel_rfl) (by kernel_rfl) (fun _ _ _ h => h) (Or.inl ⟨by rfl, ?hy2_2⟩) (by assumption) ?rest2_2
  case hy2_2 => (intro w hSw; (try dsimp only at hSw); go_simp; try with_reducible rfl)
  try simp only [Act.put, List.getElem_toArray, List.getElem_cons_zero, List.getElem_cons_succ, List.setIfInBounds_toArray, List.set_cons_zero, List.set_cons_succ]
  refine wpAnyH_take (i := 3) (oi := _) (v := ?v3_3) rfl (by kernel_rfl) (by kernel_rfl) (by kernel_rfl) (fun _ _ _ h => h) (Or.inl ⟨by rfl, ?hy3_3⟩) (by assumption) ?rest3_3
  case hy3_3 => (intro w hSw; (try dsimp only at hSw); go_simp; try with_reducible rfl)
  try simp only [Act.put, List.getElem_toArray, List.getElem_cons_zero, List.getElem_cons_succ, List.setIfInBounds_toArray, List.set_cons_zero, List.set_cons_succ]
  refine wpAnyH_take (i := 4) (oi := _) (v := ?v4_4) rfl (by kernel_rfl) (by kernel_rfl) (by kernel_rfl) (fun _ _ _ h => h) (Or.inl ⟨by rfl, ?hy4_4⟩) (by assumption) ?rest4_4
  case hy4_4 => (intro w hSw; (try dsimp only at hSw); go_simp; try with_reducible rfl)
  try simp only [Act.put, List.getElem_toArray, List.getElem_cons_zero, List.getElem_cons_succ, List.setIfInBounds_toArray, List.set_cons_zero, List.set_cons_succ]
  refine wpAnyH_take (i := 5) (oi := _) (v := ?v5_5) rfl (by kernel_rfl) (by kernel_rfl) (by kernel_rfl) (fun _ _ _ h => h) (Or.inl ⟨by rfl, ?hy5_5⟩) (by assumption) ?rest5_5
  case hy5_5 => (intro w hSw; (try dsimp only at hSw); go_simp; try with_reducible rfl)
  try simp only [Act.put, List.getElem_toArray, List.getElem_cons_zero, List.getElem_cons_succ, List.setIfInBounds_toArray, List.set_cons_zero, List.set_cons_succ]
  refine wpAnyH_take (i := 6) (oi := _) (v := undef) rfl (by kernel_rfl) (by kernel_rfl) (by kernel_rfl) (fun _ _ _ h => h) (Or.inr ⟨by kernel_rfl, rfl⟩) (by assumption) ?_
  try simp only [Act.put, List.getElem_toArray, List.getElem_cons_zero, List.getElem_cons_succ, List.setIfInBounds_toArray, List.set_cons_zero, List.set_cons_succ]
  refine wpAnyH_take (i := 7) (oi := _) (v := undef) rfl (by kernel_rfl) (by kernel_rfl) (by kernel_rfl) (fun _ _ _ h => h) (Or.inr ⟨by kernel_rfl, rfl⟩) (by assumption) ?_
  try simp only [Act.put, List.getElem_toArray, List.getElem_cons_zero, List.getElem_cons_succ, List.setIfInBounds_toArray, List.set_cons_zero, List.set_cons_succ]
  refine wpAnyH_take (i := 8) (oi := _) (v := undef) rfl (by kernel_rfl) (by kernel_rfl) (by kernel_rfl) (fun _ _ _ h => h) (Or.inr ⟨by kernel_rfl, rfl⟩) (by assumption) ?_
  try simp only [Act.put, List.getElem_toArray, List.getElem_cons_zero, List.getElem_cons_succ, List.setIfInBounds_toArray, List.set_cons_zero, List.set_cons_succ]
  refine wpAnyH_take (i := 9) (oi := _) (v := ?v9_6) rfl (by kernel_rfl) (by kernel_rfl) (by kernel_rfl) (fun _ _ _ h => h) (Or.inl ⟨by rfl, ?hy9_6⟩) (by assumption) ?rest9_6
  case hy9_6 => (intro w hSw; (try dsimp only at hSw); go_simp; try with_reducible rfl)
  try simp only [Act.put, List.getElem_toArray, List.getElem_cons_zero, List.getElem_cons_succ, List.setIfInBounds_toArray, List.set_cons_zero, List.set_cons_succ]
  refine wpAnyH_ready (rs := [1]) (by kernel_rfl) (by simp) ?_
  refine AllReadyH.cons (o := _) rfl (fun K hK => ?_) AllReadyH.nil
  go_simp
  refine hK.out _ _ ?_ (fun hHeld => ?_)
  · first | exact ⟨(M2.out.drew).box (.tail _ (.tail _ (.head _))), (M2.out.drew).box (.tail _ (.head _)), (M2.out.drew).box (.head _)⟩ | exact ⟨(M2.out.drew.step (below_alloc (Below.refl _ _) _)).box (.tail _ (.tail _ (.head _))), (M2.out.drew.step (below_alloc (Below.refl _ _) _)).box (.tail _ (.head _)), (M2.out.drew.step (below_alloc (Below.refl _ _) _)).box (.head _)⟩
  clear hK K
  try simp only [Act.put, List.getElem_toArray, List.getElem_cons_zero, List.getElem_cons_succ, List.setIfInBounds_toArray, List.set_cons_zero, List.set_cons_succ]
  refine wpAnyH_take (i := 10) (oi := _) (v := ?v10_7) rfl (by kernel_rfl) (by kernel_rfl) (by kernel_rfl) (fun _ _ _ h => h) (Or.inl ⟨by rfl, ?hy10_7⟩) (by assumption) ?rest10_7
  case hy10_7 => (intro w hSw; (try dsimp only at hSw); go_simp; try with_reducible rfl)
  try simp only [Act.put, List.getElem_toArray, List.getElem_cons_zero, List.getElem_cons_succ, List.setIfInBounds_toArray, List.set_cons_zero, List.set_cons_succ]
  refine wpAnyH_take (i := 11) (oi := _) (v := ?v11_8) rfl (by kernel_rfl) (by kernel_rfl) (by kernel_rfl) (fun _ _ _ h => h) (Or.inl ⟨by rfl, ?hy11_8⟩) (by assumption) ?rest11_8
  case hy11_8 => (intro w hSw; (try dsimp only at hSw); go_simp; try with_reducible rfl)
  try simp only [Act.put, List.getElem_toArray, List.getElem_cons_zero, List.getElem_cons_succ, List.setIfInBounds_toArray, List.set_cons_zero, List.set_cons_succ]
  refine wpAnyH_done (by kernel_rfl) ?_ _
  go_wp2; go_ret2; exact ⟨_, by first | rfl | simp [*] | (simp only [*]; rfl), (by first | (refine R_litd _ _ _ [⟨n.a, 0⟩] _ _ ?_ ?_ ?_ ?_ ?_ <;> first | rfl | (simp; done) | (simp; omega)) | (refine R_litg _ _ _ [⟨n.a, 0⟩] _ _ ?_ ?_ ?_ ?_ ?_ <;> first | rfl | (simp; done) | (simp; omega)) | (refine R_litn _ _ _ [⟨n.a, 0⟩] _ _ _ ?_ ?_ ?_ ?_ ?_ <;> first | rfl | (simp; done) | (simp; omega))), by repeat (first | exact Below.refl _ _ | apply below_alloc | apply below_drew1 | apply pw_below_drewN)⟩
set_option maxHeartbeats 8000000 in
set_option maxRecDepth 100000 in
theorem wants_22_1 (n : Node) (cs : List Value) (w : World) (hk : kNodeI.K w n cs) (hkind : n.kind = 22) (h0 : (n.b == 0) = true) (h1 : (n.c == 0) = false) :
    Calls Try.prog 107 #[.agg ⟨cs⟩] w fun e w' => ∃ v, e = .returned (.tuple #[v, .bool false]) ∧ kWant.R 153 w' w.heap.size (fun _ => True) v [⟨n.a, 0⟩] ∧ Below w.heap.size w w' := by
  obtain ⟨A4, c4, A5, c5, rfl, h4, g4, h5, g5⟩ := kNodeI_open hk
  clear hk g4 g5 h4 h5
  have q1 : (n.kind == 1) = false := by simp [hkind]
  have q2 : (n.kind == 2) = false := by simp [hkind]
  have q3 : (n.kind == 3) = false := by simp [hkind]
  have q4 : (n.kind == 4) = false := by simp [hkind]
  have q5 : (n.kind == 5) = false := by simp [hkind]
  have q6 : (n.kind == 6) = false := by simp [hkind]
  have q7 : (n.kind == 7) = false := by simp [hkind]
  have q8 : (n.kind == 8) = false := by simp [hkind]
  have q21 : (n.kind == 21) = false := by simp [hkind]
  have q22 : (n.kind == 22) = true := by simp [hkind]
  clear hkind
  have hd0 : decide (n.b = 0) = true := by simpa using h0
  have hd1 : decide (n.c = 0) = false := by simpa using h1
  have hn1 : ¬ n.c = 0 := by simpa using h1
  have M2 := Aside0.mk ((((Mem.start w).allocAt rfl #[.int .i64 n.kind, .int .i64 n.a, .int .i64 n.b, .int .i64 n.c, .slice A4 n.list.length c4, .slice A5 n.names.length c5, .int .u64 n.num, .int .i64 n.at_] 142).allocAt (g := w.heap.size + 1) (by simp) #[.int .i64 n.a, fnV 0] 153).allocAt (g := w.heap.size + 1 + 1) (by simp) #[.int .i64 n.b, fnV 0] 153)
  go_enter Try.func107, Try.ntmps107
  go_upto_region 18 with fail
  go_region_held3 (fun W => (∀ o, W.cell? ⟨w.heap.size, o, none⟩ = (#[.int .i64 n.kind, .int .i64 n.a, .int .i64 n.b, .int .i64 n.c, .slice A4 n.list.length c4, .slice A5 n.names.length c5, .int .u64 n.num, .int .i64 n.at_] : Array Value)[o]?) ∧ (∀ o, W.cell? ⟨w.heap.size + 1, o, none⟩ = (#[.int .i64 n.a, fnV 0] : Array Value)[o]?) ∧ (∀ o, W.cell? ⟨w.heap.size + 1 + 1, o, none⟩ = (#[.int .i64 n.b, fnV 0] : Array Value)[o]?)) (first | exact ⟨(M2.out.drew).box (.tail _ (.tail _ (.head _))), (M2.out.drew).box (.tail _ (.head _)), (M2.out.drew).box (.head _)⟩ | exact ⟨(M2.out.drew.step (below_alloc (Below.refl _ _) _)).box (.tail _ (.tail _ (.head _))), (M2.out.drew.step (below_alloc (Below.refl _ _) _)).box (.tail _ (.head _)), (M2.out.drew.step (below_alloc (Below.refl _ _) _)).box (.head _)⟩) (fail)
  all_goals (go_wp2; go_ret2; exact ⟨_, by first | rfl | simp [*] | (simp only [*]; rfl), (by first | (refine R_litd _ _ _ [⟨n.a, 0⟩] _ _ ?_ ?_ ?_ ?_ ?_ <;> first | rfl | (simp; done) | (simp; omega)) | (refine R_litg _ _ _ [⟨n.a, 0⟩] _ _ ?_ ?_ ?_ ?_ ?_ <;> first | rfl | (simp; done) | (simp; omega)) | (refine R_litn _ _ _ [⟨n.a, 0⟩] _ _ _ ?_ ?_ ?_ ?_ ?_ <;> first | rfl | (simp; done) | (simp; omega))), by repeat (first | exact Below.refl _ _ | apply below_alloc | apply below_drew1 | apply pw_below_drewN)⟩)
set_option maxHeartbeats 8000000 in
set_option maxRecDepth 100000 in
theorem wants_22_2 (n : Node) (cs : List Value) (w : World) (hk : kNodeI.K w n cs) (hkind : n.kind = 22) (h0 : (n.b == 0) = true) (h1 : (n.c == 0) = true) :
    Calls Try.prog 107 #[.agg ⟨cs⟩] w fun e w' => ∃ v, e = .returned (.tuple #[v, .bool true]) ∧ kWant.R 153 w' w.heap.size (fun _ => True) v [⟨n.a, 0⟩] ∧ Below w.heap.size w w' := by
  obtain ⟨A4, c4, A5, c5, rfl, h4, g4, h5, g5⟩ := kNodeI_open hk
  clear hk g4 g5 h4 h5
  have q1 : (n.kind == 1) = false := by simp [hkind]
  have q2 : (n.kind == 2) = false := by simp [hkind]
  have q3 : (n.kind == 3) = false := by simp [hkind]
  have q4 : (n.kind == 4) = false := by simp [hkind]
  have q5 : (n.kind == 5) = false := by simp [hkind]
  have q6 : (n.kind == 6) = false := by simp [hkind]
  have q7 : (n.kind == 7) = false := by simp [hkind]
  have q8 : (n.kind == 8) = false := by simp [hkind]
  have q21 : (n.kind == 21) = false := by simp [hkind]
  have q22 : (n.kind == 22) = true := by simp [hkind]
  clear hkind
  have hd0 : decide (n.b = 0) = true := by simpa using h0
  have hd1 : decide (n.c = 0) = true := by simpa using h1
  have M2 := Aside0.mk ((((Mem.start w).allocAt rfl #[.int .i64 n.kind, .int .i64 n.a, .int .i64 n.b, .int .i64 n.c, .slice A4 n.list.length c4, .slice A5 n.names.length c5, .int .u64 n.num, .int .i64 n.at_] 142).allocAt (g := w.heap.size + 1) (by simp) #[.int .i64 n.a, fnV 0] 153).allocAt (g := w.heap.size + 1 + 1) (by simp) #[.int .i64 n.b, fnV 0] 153)
  go_enter Try.func107, Try.ntmps107
  go_upto_region 18 with fail
  go_region_held3 (fun W => (∀ o, W.cell? ⟨w.heap.size, o, none⟩ = (#[.int .i64 n.kind, .int .i64 n.a, .int .i64 n.b, .int .i64 n.c, .slice A4 n.list.length c4, .slice A5 n.names.length c5, .int .u64 n.num, .int .i64 n.at_] : Array Value)[o]?) ∧ (∀ o, W.cell? ⟨w.heap.size + 1, o, none⟩ = (#[.int .i64 n.a, fnV 0] : Array Value)[o]?) ∧ (∀ o, W.cell? ⟨w.heap.size + 1 + 1, o, none⟩ = (#[.int .i64 n.b, fnV 0] : Array Value)[o]?)) (first | exact ⟨(M2.out.drew).box (.tail _ (.tail _ (.head _))), (M2.out.drew).box (.tail _ (.head _)), (M2.out.drew).box (.head _)⟩ | exact ⟨(M2.out.drew.step (below_alloc (Below.refl _ _) _)).box (.tail _ (.tail _ (.head _))), (M2.out.drew.step (below_alloc (Below.refl _ _) _)).box (.tail _ (.head _)), (M2.out.drew.step (below_alloc (Below.refl _ _) _)).box (.head _)⟩) (fail)
  all_goals (go_wp2; go_ret2; exact ⟨_, by first | rfl | simp [*] | (simp only [*]; rfl), (by first | (refine R_litd _ _ _ [⟨n.a, 0⟩] _ _ ?_ ?_ ?_ ?_ ?_ <;> first | rfl | (simp; done) | (simp; omega)) | (refine R_litg _ _ _ [⟨n.a, 0⟩] _ _ ?_ ?_ ?_ ?_ ?_ <;> first | rfl | (simp; done) | (simp; omega)) | (refine R_litn _ _ _ [⟨n.a, 0⟩] _ _ _ ?_ ?_ ?_ ?_ ?_ <;> first | rfl | (simp; done) | (simp; omega))), by repeat (first | exact Below.refl _ _ | apply below_alloc | apply below_drew1 | apply pw_below_drewN)⟩)
set_option maxHeartbeats 8000000 in
set_option maxRecDepth 100000 in
theorem wants_25_0 (n : Node) (cs : List Value) (w : World) (hk : kNodeI.K w n cs) (hkind : n.kind = 25) (h0 : (n.b == 0) = false) :
    Calls Try.prog 107 #[.agg ⟨cs⟩] w fun e w' => ∃ v, e = .returned (.tuple #[v, .bool false]) ∧ kWant.R 153 w' w.heap.size (fun _ => True) v [⟨n.a, 0⟩] ∧ Below w.heap.size w w' := by
  obtain ⟨A4, c4, A5, c5, rfl, h4, g4, h5, g5⟩ := kNodeI_open hk
  clear hk g4 g5 h4 h5
  have q1 : (n.kind == 1) = false := by simp [hkind]
  have q2 : (n.kind == 2) = false := by simp [hkind]
  have q3 : (n.kind == 3) = false := by simp [hkind]
  have q4 : (n.kind == 4) = false := by simp [hkind]
  have q5 : (n.kind == 5) = false := by simp [hkind]
  have q6 : (n.kind == 6) = false := by simp [hkind]
  have q7 : (n.kind == 7) = false := by simp [hkind]
  have q8 : (n.kind == 8) = false := by simp [hkind]
  have q21 : (n.kind == 21) = false := by simp [hkind]
  have q22 : (n.kind == 22) = false := by simp [hkind]
  have q25 : (n.kind == 25) = true := by simp [hkind]
  clear hkind
  have hd0 : decide (n.b = 0) = false := by simpa using h0
  have hn0 : ¬ n.b = 0 := by simpa using h0
  have M2 := Aside0.mk ((((Mem.start w).allocAt rfl #[.int .i64 n.kind, .int .i64 n.a, .int .i64 n.b, .int .i64 n.c, .slice A4 n.list.length c4, .slice A5 n.names.length c5, .int .u64 n.num, .int .i64 n.at_] 142).allocAt (g := w.heap.size + 1) (by simp) #[.int .i64 n.a, fnV 0] 153).allocAt (g := w.heap.size + 1 + 1) (by simp) #[.int .i64 n.b, fnV 0] 153)
  go_enter Try.func107, Try.ntmps107
  go_upto_region 18 with fail
  refine wp_region_held_drew (S := (fun W => (∀ o, W.cell? ⟨w.heap.size, o, none⟩ = (#[.int .i64 n.kind, .int .i64 n.a, .int .i64 n.b, .int .i64 n.c, .slice A4 n.list.length c4, .slice A5 n.names.length c5, .int .u64 n.num, .int .i64 n.at_] : Array Value)[o]?) ∧ (∀ o, W.cell? ⟨w.heap.size + 1, o, none⟩ = (#[.int .i64 n.a, fnV 0] : Array Value)[o]?) ∧ (∀ o, W.cell? ⟨w.heap.size + 1 + 1, o, none⟩ = (#[.int .i64 n.b, fnV 0] : Array Value)[o]?))) (by kernel_rfl) ?_ (fun hHeld => ?_)
  · first | exact ⟨(M2.out.drew).box (.tail _ (.tail _ (.head _))), (M2.out.drew).box (.tail _ (.head _)), (M2.out.drew).box (.head _)⟩ | exact ⟨(M2.out.drew.step (below_alloc (Below.refl _ _) _)).box (.tail _ (.tail _ (.head _))), (M2.out.drew.step (below_alloc (Below.refl _ _) _)).box (.tail _ (.head _)), (M2.out.drew.step (below_alloc (Below.refl _ _) _)).box (.head _)⟩
  refine wpAnyH_take (i := 0) (oi := _) (v := ?v0_1) rfl (by kernel_rfl) (by kernel_rfl) (by kernel_rfl) (fun _ _ _ h => h) (Or.inl ⟨by rfl, ?hy0_1⟩) (by assumption) ?rest0_1
  case hy0_1 => (intro w hSw; (try dsimp only at hSw); go_simp; try with_reducible rfl)
  try simp only [Act.put, List.getElem_toArray, List.getElem_cons_zero, List.getElem_cons_succ, List.setIfInBounds_toArray, List.set_cons_zero, List.set_cons_succ]
  refine wpAnyH_take (i := 2) (oi := _) (v := ?v2_2) rfl (by kernel_rfl) (by kernel_rfl) (by kernel_rfl) (fun _ _ _ h => h) (Or.inl ⟨by rfl, ?hy2_2⟩) (by assumption) ?rest2_2
  case hy2_2 => (intro w hSw; (try dsimp only at hSw); go_simp; try with_reducible rfl)
  try simp only [Act.put, List.getElem_toArray, List.getElem_cons_zero, List.getElem_cons_succ, List.setIfInBounds_toArray, List.set_cons_zero, List.set_cons_succ]
  refine wpAnyH_take (i := 3) (oi := _) (v := ?v3_3) rfl (by kernel_rfl) (by kernel_rfl) (by kernel_rfl) (fun _ _ _ h => h) (Or.inl ⟨by rfl, ?hy3_3⟩) (by assumption) ?rest3_3
  case hy3_3 => (intro w hSw; (try dsimp only at hSw); go_simp; try with_reducible rfl)
  try simp only [Act.put, List.getElem_toArray, List.getElem_cons_zero, List.getElem_cons_succ, List.setIfInBounds_toArray, List.set_cons_zero, List.set_cons_succ]
  refine wpAnyH_take (i := 4) (oi := _) (v := ?v4_4) rfl (by kernel_rfl) (by kernel_rfl) (by kernel_rfl) (fun _ _ _ h => h) (Or.inl ⟨by rfl, ?hy4_4⟩) (by assumption) ?rest4_4
  case hy4_4 => (intro w hSw; (try dsimp only at hSw); go_simp; try with_reducible rfl)
  try simp only [Act.put, List.getElem_toArray, List.getElem_cons_zero, List.getElem_cons_succ, List.setIfInBounds_toArray, List.set_cons_zero, List.set_cons_succ]
  refine wpAnyH_take (i := 5) (oi := _) (v := ?v5_5) rfl (by kernel_rfl) (by kernel_rfl) (by kernel_rfl) (fun _ _ _ h => h) (Or.inl ⟨by rfl, ?hy5_5⟩) (by assumption) ?rest5_5
  case hy5_5 => (intro w hSw; (try dsimp only at hSw); go_simp; try with_reducible rfl)
  try simp only [Act.put, List.getElem_toArray, List.getElem_cons_zero, List.getElem_cons_succ, List.setIfInBounds_toArray, List.set_cons_zero, List.set_cons_succ]
  refine wpAnyH_take (i := 6) (oi := _) (v := undef) rfl (by kernel_rfl) (by kernel_rfl) (by kernel_rfl) (fun _ _ _ h => h) (Or.inr ⟨by kernel_rfl, rfl⟩) (by assumption) ?_
  try simp only [Act.put, List.getElem_toArray, List.getElem_cons_zero, List.getElem_cons_succ, List.setIfInBounds_toArray, List.set_cons_zero, List.set_cons_succ]
  refine wpAnyH_take (i := 7) (oi := _) (v := undef) rfl (by kernel_rfl) (by kernel_rfl) (by kernel_rfl) (fun _ _ _ h => h) (Or.inr ⟨by kernel_rfl, rfl⟩) (by assumption) ?_
  try simp only [Act.put, List.getElem_toArray, List.getElem_cons_zero, List.getElem_cons_succ, List.setIfInBounds_toArray, List.set_cons_zero, List.set_cons_succ]
  refine wpAnyH_take (i := 8) (oi := _) (v := undef) rfl (by kernel_rfl) (by kernel_rfl) (by kernel_rfl) (fun _ _ _ h => h) (Or.inr ⟨by kernel_rfl, rfl⟩) (by assumption) ?_
  try simp only [Act.put, List.getElem_toArray, List.getElem_cons_zero, List.getElem_cons_succ, List.setIfInBounds_toArray, List.set_cons_zero, List.set_cons_succ]
  refine wpAnyH_take (i := 9) (oi := _) (v := ?v9_6) rfl (by kernel_rfl) (by kernel_rfl) (by kernel_rfl) (fun _ _ _ h => h) (Or.inl ⟨by rfl, ?hy9_6⟩) (by assumption) ?rest9_6
  case hy9_6 => (intro w hSw; (try dsimp only at hSw); go_simp; try with_reducible rfl)
  try simp only [Act.put, List.getElem_toArray, List.getElem_cons_zero, List.getElem_cons_succ, List.setIfInBounds_toArray, List.set_cons_zero, List.set_cons_succ]
  refine wpAnyH_ready (rs := [1]) (by kernel_rfl) (by simp) ?_
  refine AllReadyH.cons (o := _) rfl (fun K hK => ?_) AllReadyH.nil
  go_simp
  refine hK.out _ _ ?_ (fun hHeld => ?_)
  · first | exact ⟨(M2.out.drew).box (.tail _ (.tail _ (.head _))), (M2.out.drew).box (.tail _ (.head _)), (M2.out.drew).box (.head _)⟩ | exact ⟨(M2.out.drew.step (below_alloc (Below.refl _ _) _)).box (.tail _ (.tail _ (.head _))), (M2.out.drew.step (below_alloc (Below.refl _ _) _)).box (.tail _ (.head _)), (M2.out.drew.step (below_alloc (Below.refl _ _) _)).box (.head _)⟩
  clear hK K
  try simp only [Act.put, List.getElem_toArray, List.getElem_cons_zero, List.getElem_cons_succ, List.setIfInBounds_toArray, List.set_cons_zero, List.set_cons_succ]
  refine wpAnyH_take (i := 10) (oi := _) (v := ?v10_7) rfl (by kernel_rfl) (by kernel_rfl) (by kernel_rfl) (fun _ _ _ h => h) (Or.inl ⟨by rfl, ?hy10_7⟩) (by assumption) ?rest10_7
  case hy10_7 => (intro w hSw; (try dsimp only at hSw); go_simp; try with_reducible rfl)
  try simp only [Act.put, List.getElem_toArray, List.getElem_cons_zero, List.getElem_cons_succ, List.setIfInBounds_toArray, List.set_cons_zero, List.set_cons_succ]
  refine wpAnyH_take (i := 11) (oi := _) (v := ?v11_8) rfl (by kernel_rfl) (by kernel_rfl) (by kernel_rfl) (fun _ _ _ h => h) (Or.inl ⟨by rfl, ?hy11_8⟩) (by assumption) ?rest11_8
  case hy11_8 => (intro w hSw; (try dsimp only at hSw); go_simp; try with_reducible rfl)
  try simp only [Act.put, List.getElem_toArray, List.getElem_cons_zero, List.getElem_cons_succ, List.setIfInBounds_toArray, List.set_cons_zero, List.set_cons_succ]
  refine wpAnyH_done (by kernel_rfl) ?_ _
  go_wp2; go_ret2; exact ⟨_, by first | rfl | simp [*] | (simp only [*]; rfl), (by first | (refine R_litd _ _ _ [⟨n.a, 0⟩] _ _ ?_ ?_ ?_ ?_ ?_ <;> first | rfl | (simp; done) | (simp; omega)) | (refine R_litg _ _ _ [⟨n.a, 0⟩] _ _ ?_ ?_ ?_ ?_ ?_ <;> first | rfl | (simp; done) | (simp; omega)) | (refine R_litn _ _ _ [⟨n.a, 0⟩] _ _ _ ?_ ?_ ?_ ?_ ?_ <;> first | rfl | (simp; done) | (simp; omega))), by repeat (first | exact Below.refl _ _ | apply below_alloc | apply below_drew1 | apply pw_below_drewN)⟩
set_option maxHeartbeats 8000000 in
set_option maxRecDepth 100000 in
theorem wants_25_1 (n : Node) (cs : List Value) (w : World) (hk : kNodeI.K w n cs) (hkind : n.kind = 25) (h0 : (n.b == 0) = true) (h1 : (n.c == 0) = false) :
    Calls Try.prog 107 #[.agg ⟨cs⟩] w fun e w' => ∃ v, e = .returned (.tuple #[v, .bool false]) ∧ kWant.R 153 w' w.heap.size (fun _ => True) v [⟨n.a, 0⟩] ∧ Below w.heap.size w w' := by
  obtain ⟨A4, c4, A5, c5, rfl, h4, g4, h5, g5⟩ := kNodeI_open hk
  clear hk g4 g5 h4 h5
  have q1 : (n.kind == 1) = false := by simp [hkind]
  have q2 : (n.kind == 2) = false := by simp [hkind]
  have q3 : (n.kind == 3) = false := by simp [hkind]
  have q4 : (n.kind == 4) = false := by simp [hkind]
  have q5 : (n.kind == 5) = false := by simp [hkind]
  have q6 : (n.kind == 6) = false := by simp [hkind]
  have q7 : (n.kind == 7) = false := by simp [hkind]
  have q8 : (n.kind == 8) = false := by simp [hkind]
  have q21 : (n.kind == 21) = false := by simp [hkind]
  have q22 : (n.kind == 22) = false := by simp [hkind]
  have q25 : (n.kind == 25) = true := by simp [hkind]
  clear hkind
  have hd0 : decide (n.b = 0) = true := by simpa using h0
  have hd1 : decide (n.c = 0) = false := by simpa using h1
  have hn1 : ¬ n.c = 0 := by simpa using h1
  have M2 := Aside0.mk ((((Mem.start w).allocAt rfl #[.int .i64 n.kind, .int .i64 n.a, .int .i64 n.b, .int .i64 n.c, .slice A4 n.list.length c4, .slice A5 n.names.length c5, .int .u64 n.num, .int .i64 n.at_] 142).allocAt (g := w.heap.size + 1) (by simp) #[.int .i64 n.a, fnV 0] 153).allocAt (g := w.heap.size + 1 + 1) (by simp) #[.int .i64 n.b, fnV 0] 153)
  go_enter Try.func107, Try.ntmps107
  go_upto_region 18 with fail
  go_region_held3 (fun W => (∀ o, W.cell? ⟨w.heap.size, o, none⟩ = (#[.int .i64 n.kind, .int .i64 n.a, .int .i64 n.b, .int .i64 n.c, .slice A4 n.list.length c4, .slice A5 n.names.length c5, .int .u64 n.num, .int .i64 n.at_] : Array Value)[o]?) ∧ (∀ o, W.cell? ⟨w.heap.size + 1, o, none⟩ = (#[.int .i64 n.a, fnV 0] : Array Value)[o]?) ∧ (∀ o, W.cell? ⟨w.heap.size + 1 + 1, o, none⟩ = (#[.int .i64 n.b, fnV 0] : Array Value)[o]?)) (first | exact ⟨(M2.out.drew).box (.tail _ (.tail _ (.head _))), (M2.out.drew).box (.tail _ (.head _)), (M2.out.drew).box (.head _)⟩ | exact ⟨(M2.out.drew.step (below_alloc (Below.refl _ _) _)).box (.tail _ (.tail _ (.head _))), (M2.out.drew.step (below_alloc (Below.refl _ _) _)).box (.tail _ (.head _)), (M2.out.drew.step (below_alloc (Below.refl _ _) _)).box (.head _)⟩) (fail)
  all_goals (go_wp2; go_ret2; exact ⟨_, by first | rfl | simp [*] | (simp only [*]; rfl), (by first | (refine R_litd _ _ _ [⟨n.a, 0⟩] _ _ ?_ ?_ ?_ ?_ ?_ <;> first | rfl | (simp; done) | (simp; omega)) | (refine R_litg _ _ _ [⟨n.a, 0⟩] _ _ ?_ ?_ ?_ ?_ ?_ <;> first | rfl | (simp; done) | (simp; omega)) | (refine R_litn _ _ _ [⟨n.a, 0⟩] _ _ _ ?_ ?_ ?_ ?_ ?_ <;> first | rfl | (simp; done) | (simp; omega))), by repeat (first | exact Below.refl _ _ | apply below_alloc | apply below_drew1 | apply pw_below_drewN)⟩)
set_option maxHeartbeats 8000000 in
set_option maxRecDepth 100000 in
theorem wants_25_2 (n : Node) (cs : List Value) (w : World) (hk : kNodeI.K w n cs) (hkind : n.kind = 25) (h0 : (n.b == 0) = true) (h1 : (n.c == 0) = true) :
    Calls Try.prog 107 #[.agg ⟨cs⟩] w fun e w' => ∃ v, e = .returned (.tuple #[v, .bool true]) ∧ kWant.R 153 w' w.heap.size (fun _ => True) v [⟨n.a, 0⟩] ∧ Below w.heap.size w w' := by
  obtain ⟨A4, c4, A5, c5, rfl, h4, g4, h5, g5⟩ := kNodeI_open hk
  clear hk g4 g5 h4 h5
  have q1 : (n.kind == 1) = false := by simp [hkind]
  have q2 : (n.kind == 2) = false := by simp [hkind]
  have q3 : (n.kind == 3) = false := by simp [hkind]
  have q4 : (n.kind == 4) = false := by simp [hkind]
  have q5 : (n.kind == 5) = false := by simp [hkind]
  have q6 : (n.kind == 6) = false := by simp [hkind]
  have q7 : (n.kind == 7) = false := by simp [hkind]
  have q8 : (n.kind == 8) = false := by simp [hkind]
  have q21 : (n.kind == 21) = false := by simp [hkind]
  have q22 : (n.kind == 22) = false := by simp [hkind]
  have q25 : (n.kind == 25) = true := by simp [hkind]
  clear hkind
  have hd0 : decide (n.b = 0) = true := by simpa using h0
  have hd1 : decide (n.c = 0) = true := by simpa using h1
  have M2 := Aside0.mk ((((Mem.start w).allocAt rfl #[.int .i64 n.kind, .int .i64 n.a, .int .i64 n.b, .int .i64 n.c, .slice A4 n.list.length c4, .slice A5 n.names.length c5, .int .u64 n.num, .int .i64 n.at_] 142).allocAt (g := w.heap.size + 1) (by simp) #[.int .i64 n.a, fnV 0] 153).allocAt (g := w.heap.size + 1 + 1) (by simp) #[.int .i64 n.b, fnV 0] 153)
  go_enter Try.func107, Try.ntmps107
  go_upto_region 18 with fail
  go_region_held3 (fun W => (∀ o, W.cell? ⟨w.heap.size, o, none⟩ = (#[.int .i64 n.kind, .int .i64 n.a, .int .i64 n.b, .int .i64 n.c, .slice A4 n.list.length c4, .slice A5 n.names.length c5, .int .u64 n.num, .int .i64 n.at_] : Array Value)[o]?) ∧ (∀ o, W.cell? ⟨w.heap.size + 1, o, none⟩ = (#[.int .i64 n.a, fnV 0] : Array Value)[o]?) ∧ (∀ o, W.cell? ⟨w.heap.size + 1 + 1, o, none⟩ = (#[.int .i64 n.b, fnV 0] : Array Value)[o]?)) (first | exact ⟨(M2.out.drew).box (.tail _ (.tail _ (.head _))), (M2.out.drew).box (.tail _ (.head _)), (M2.out.drew).box (.head _)⟩ | exact ⟨(M2.out.drew.step (below_alloc (Below.refl _ _) _)).box (.tail _ (.tail _ (.head _))), (M2.out.drew.step (below_alloc (Below.refl _ _) _)).box (.tail _ (.head _)), (M2.out.drew.step (below_alloc (Below.refl _ _) _)).box (.head _)⟩) (fail)
  all_goals (go_wp2; go_ret2; exact ⟨_, by first | rfl | simp [*] | (simp only [*]; rfl), (by first | (refine R_litd _ _ _ [⟨n.a, 0⟩] _ _ ?_ ?_ ?_ ?_ ?_ <;> first | rfl | (simp; done) | (simp; omega)) | (refine R_litg _ _ _ [⟨n.a, 0⟩] _ _ ?_ ?_ ?_ ?_ ?_ <;> first | rfl | (simp; done) | (simp; omega)) | (refine R_litn _ _ _ [⟨n.a, 0⟩] _ _ _ ?_ ?_ ?_ ?_ ?_ <;> first | rfl | (simp; done) | (simp; omega))), by repeat (first | exact Below.refl _ _ | apply below_alloc | apply below_drew1 | apply pw_below_drewN)⟩)
set_option maxHeartbeats 8000000 in
set_option maxRecDepth 100000 in
theorem wants_26_0 (n : Node) (cs : List Value) (w : World) (hk : kNodeI.K w n cs) (hkind : n.kind = 26) (h0 : (n.b == 0) = false) :
    Calls Try.prog 107 #[.agg ⟨cs⟩] w fun e w' => ∃ v, e = .returned (.tuple #[v, .bool false]) ∧ kWant.R 153 w' w.heap.size (fun _ => True) v [⟨n.a, 0⟩] ∧ Below w.heap.size w w' := by
  obtain ⟨A4, c4, A5, c5, rfl, h4, g4, h5, g5⟩ := kNodeI_open hk
  clear hk g4 g5 h4 h5
  have q1 : (n.kind == 1) = false := by simp [hkind]
  have q2 : (n.kind == 2) = false := by simp [hkind]
  have q3 : (n.kind == 3) = false := by simp [hkind]
  have q4 : (n.kind == 4) = false := by simp [hkind]
  have q5 : (n.kind == 5) = false := by simp [hkind]
  have q6 : (n.kind == 6) = false := by simp [hkind]
  have q7 : (n.kind == 7) = false := by simp [hkind]
  have q8 : (n.kind == 8) = false := by simp [hkind]
  have q21 : (n.kind == 21) = false := by simp [hkind]
  have q22 : (n.kind == 22) = false := by simp [hkind]
  have q25 : (n.kind == 25) = false := by simp [hkind]
  have q26 : (n.kind == 26) = true := by simp [hkind]
  clear hkind
  have hd0 : decide (n.b = 0) = false := by simpa using h0
  have hn0 : ¬ n.b = 0 := by simpa using h0
  have M2 := Aside0.mk ((((Mem.start w).allocAt rfl #[.int .i64 n.kind, .int .i64 n.a, .int .i64 n.b, .int .i64 n.c, .slice A4 n.list.length c4, .slice A5 n.names.length c5, .int .u64 n.num, .int .i64 n.at_] 142).allocAt (g := w.heap.size + 1) (by simp) #[.int .i64 n.a, fnV 0] 153).allocAt (g := w.heap.size + 1 + 1) (by simp) #[.int .i64 n.b, fnV 0] 153)
  go_enter Try.func107, Try.ntmps107
  go_upto_region 18 with fail
  refine wp_region_held_drew (S := (fun W => (∀ o, W.cell? ⟨w.heap.size, o, none⟩ = (#[.int .i64 n.kind, .int .i64 n.a, .int .i64 n.b, .int .i64 n.c, .slice A4 n.list.length c4, .slice A5 n.names.length c5, .int .u64 n.num, .int .i64 n.at_] : Array Value)[o]?) ∧ (∀ o, W.cell? ⟨w.heap.size + 1, o, none⟩ = (#[.int .i64 n.a, fnV 0] : Array Value)[o]?) ∧ (∀ o, W.cell? ⟨w.heap.size + 1 + 1, o, none⟩ = (#[.int .i64 n.b, fnV 0] : Array Value)[o]?))) (by kernel_rfl) ?_ (fun hHeld => ?_)
  · first | exact ⟨(M2.out.drew).box (.tail _ (.tail _ (.head _))), (M2.out.drew).box (.tail _ (.head _)), (M2.out.drew).box (.head _)⟩ | exact ⟨(M2.out.drew.step (below_alloc (Below.refl _ _) _)).box (.tail _ (.tail _ (.head _))), (M2.out.drew.step (below_alloc (Below.refl _ _) _)).box (.tail _ (.head _)), (M2.out.drew.step (below_alloc (Below.refl _ _) _)).box (.head _)⟩
  refine wpAnyH_take (i := 0) (oi := _) (v := ?v0_1) rfl (by kernel_rfl) (by kernel_rfl) (by kernel_rfl) (fun _ _ _ h => h) (Or.inl ⟨by rfl, ?hy0_1⟩) (by assumption) ?rest0_1
  case hy0_1 => (intro w hSw; (try dsimp only at hSw); go_simp; try with_reducible rfl)
  try simp only [Act.put, List.getElem_toArray, List.getElem_cons_zero, List.getElem_cons_succ, List.setIfInBounds_toArray, List.set_cons_zero, List.set_cons_succ]
  refine wpAnyH_take (i := 2) (oi := _) (v := ?v2_2) rfl (by kernel_rfl) (by kernel_rfl) (by kernel_rfl) (fun _ _ _ h => h) (Or.inl ⟨by rfl, ?hy2_2⟩) (by assumption) ?rest2_2
  case hy2_2 => (intro w hSw; (try dsimp only at hSw); go_simp; try with_reducible rfl)
  try simp only [Act.put, List.getElem_toArray, List.getElem_cons_zero, List.getElem_cons_succ, List.setIfInBounds_toArray, List.set_cons_zero, List.set_cons_succ]
  refine wpAnyH_take (i := 3) (oi := _) (v := ?v3_3) rfl (by kernel_rfl) (by kernel_rfl) (by kernel_rfl) (fun _ _ _ h => h) (Or.inl ⟨by rfl, ?hy3_3⟩) (by assumption) ?rest3_3
  case hy3_3 => (intro w hSw; (try dsimp only at hSw); go_simp; try with_reducible rfl)
  try simp only [Act.put, List.getElem_toArray, List.getElem_cons_zero, List.getElem_cons_succ, List.setIfInBounds_toArray, List.set_cons_zero, List.set_cons_succ]
  refine wpAnyH_take (i := 4) (oi := _) (v := ?v4_4) rfl (by kernel_rfl) (by kernel_rfl) (by kernel_rfl) (fun _ _ _ h => h) (Or.inl ⟨by rfl, ?hy4_4⟩) (by assumption) ?rest4_4
  case hy4_4 => (intro w hSw; (try dsimp only at hSw); go_simp; try with_reducible rfl)
  try simp only [Act.put, List.getElem_toArray, List.getElem_cons_zero, List.getElem_cons_succ, List.setIfInBounds_toArray, List.set_cons_zero, List.set_cons_succ]
  refine wpAnyH_take (i := 5) (oi := _) (v := ?v5_5) rfl (by kernel_rfl) (by kernel_rfl) (by kernel_rfl) (fun _ _ _ h => h) (Or.inl ⟨by rfl, ?hy5_5⟩) (by assumption) ?rest5_5
  case hy5_5 => (intro w hSw; (try dsimp only at hSw); go_simp; try with_reducible rfl)
  try simp only [Act.put, List.getElem_toArray, List.getElem_cons_zero, List.getElem_cons_succ, List.setIfInBounds_toArray, List.set_cons_zero, List.set_cons_succ]
  refine wpAnyH_take (i := 6) (oi := _) (v := undef) rfl (by kernel_rfl) (by kernel_rfl) (by kernel_rfl) (fun _ _ _ h => h) (Or.inr ⟨by kernel_rfl, rfl⟩) (by assumption) ?_
  try simp only [Act.put, List.getElem_toArray, List.getElem_cons_zero, List.getElem_cons_succ, List.setIfInBounds_toArray, List.set_cons_zero, List.set_cons_succ]
  refine wpAnyH_take (i := 7) (oi := _) (v := undef) rfl (by kernel_rfl) (by kernel_rfl) (by kernel_rfl) (fun _ _ _ h => h) (Or.inr ⟨by kernel_rfl, rfl⟩) (by assumption) ?_
  try simp only [Act.put, List.getElem_toArray, List.getElem_cons_zero, List.getElem_cons_succ, List.setIfInBounds_toArray, List.set_cons_zero, List.set_cons_succ]
  refine wpAnyH_take (i := 8) (oi := _) (v := undef) rfl (by kernel_rfl) (by kernel_rfl) (by kernel_rfl) (fun _ _ _ h => h) (Or.inr ⟨by kernel_rfl, rfl⟩) (by assumption) ?_
  try simp only [Act.put, List.getElem_toArray, List.getElem_cons_zero, List.getElem_cons_succ, List.setIfInBounds_toArray, List.set_cons_zero, List.set_cons_succ]
  refine wpAnyH_take (i := 9) (oi := _) (v := ?v9_6) rfl (by kernel_rfl) (by kernel_rfl) (by kernel_rfl) (fun _ _ _ h => h) (Or.inl ⟨by rfl, ?hy9_6⟩) (by assumption) ?rest9_6
  case hy9_6 => (intro w hSw; (try dsimp only at hSw); go_simp; try with_reducible rfl)
  try simp only [Act.put, List.getElem_toArray, List.getElem_cons_zero, List.getElem_cons_succ, List.setIfInBounds_toArray, List.set_cons_zero, List.set_cons_succ]
  refine wpAnyH_ready (rs := [1]) (by kernel_rfl) (by simp) ?_
  refine AllReadyH.cons (o := _) rfl (fun K hK => ?_) AllReadyH.nil
  go_simp
  refine hK.out _ _ ?_ (fun hHeld => ?_)
  · first | exact ⟨(M2.out.drew).box (.tail _ (.tail _ (.head _))), (M2.out.drew).box (.tail _ (.head _)), (M2.out.drew).box (.head _)⟩ | exact ⟨(M2.out.drew.step (below_alloc (Below.refl _ _) _)).box (.tail _ (.tail _ (.head _))), (M2.out.drew.step (below_alloc (Below.refl _ _) _)).box (.tail _ (.head _)), (M2.out.drew.step (below_alloc (Below.refl _ _) _)).box (.head _)⟩
  clear hK K
  try simp only [Act.put, List.getElem_toArray, List.getElem_cons_zero, List.getElem_cons_succ, List.setIfInBounds_toArray, List.set_cons_zero, List.set_cons_succ]
  refine wpAnyH_take (i := 10) (oi := _) (v := ?v10_7) rfl (by kernel_rfl) (by kernel_rfl) (by kernel_rfl) (fun _ _ _ h => h) (Or.inl ⟨by rfl, ?hy10_7⟩) (by assumption) ?rest10_7
  case hy10_7 => (intro w hSw; (try dsimp only at hSw); go_simp; try with_reducible rfl)
  try simp only [Act.put, List.getElem_toArray, List.getElem_cons_zero, List.getElem_cons_succ, List.setIfInBounds_toArray, List.set_cons_zero, List.set_cons_succ]
  refine wpAnyH_take (i := 11) (oi := _) (v := ?v11_8) rfl (by kernel_rfl) (by kernel_rfl) (by kernel_rfl) (fun _ _ _ h => h) (Or.inl ⟨by rfl, ?hy11_8⟩) (by assumption) ?rest11_8
  case hy11_8 => (intro w hSw; (try dsimp only at hSw); go_simp; try with_reducible rfl)
  try simp only [Act.put, List.getElem_toArray, List.getElem_cons_zero, List.getElem_cons_succ, List.setIfInBounds_toArray, List.set_cons_zero, List.set_cons_succ]
  refine wpAnyH_done (by kernel_rfl) ?_ _
  go_wp2; go_ret2; exact ⟨_, by first | rfl | simp [*] | (simp only [*]; rfl), (by first | (refine R_litd _ _ _ [⟨n.a, 0⟩] _ _ ?_ ?_ ?_ ?_ ?_ <;> first | rfl | (simp; done) | (simp; omega)) | (refine R_litg _ _ _ [⟨n.a, 0⟩] _ _ ?_ ?_ ?_ ?_ ?_ <;> first | rfl | (simp; done) | (simp; omega)) | (refine R_litn _ _ _ [⟨n.a, 0⟩] _ _ _ ?_ ?_ ?_ ?_ ?_ <;> first | rfl | (simp; done) | (simp; omega))), by repeat (first | exact Below.refl _ _ | apply below_alloc | apply below_drew1 | apply pw_below_drewN)⟩
set_option maxHeartbeats 8000000 in
set_option maxRecDepth 100000 in
theorem wants_26_1 (n : Node) (cs : List Value) (w : World) (hk : kNodeI.K w n cs) (hkind : n.kind = 26) (h0 : (n.b == 0) = true) (h1 : (n.c == 0) = false) :
    Calls Try.prog 107 #[.agg ⟨cs⟩] w fun e w' => ∃ v, e = .returned (.tuple #[v, .bool false]) ∧ kWant.R 153 w' w.heap.size (fun _ => True) v [⟨n.a, 0⟩] ∧ Below w.heap.size w w' := by
  obtain ⟨A4, c4, A5, c5, rfl, h4, g4, h5, g5⟩ := kNodeI_open hk
  clear hk g4 g5 h4 h5
  have q1 : (n.kind == 1) = false := by simp [hkind]
  have q2 : (n.kind == 2) = false := by simp [hkind]
  have q3 : (n.kind == 3) = false := by simp [hkind]
  have q4 : (n.kind == 4) = false := by simp [hkind]
  have q5 : (n.kind == 5) = false := by simp [hkind]
  have q6 : (n.kind == 6) = false := by simp [hkind]
  have q7 : (n.kind == 7) = false := by simp [hkind]
  have q8 : (n.kind == 8) = false := by simp [hkind]
  have q21 : (n.kind == 21) = false := by simp [hkind]
  have q22 : (n.kind == 22) = false := by simp [hkind]
  have q25 : (n.kind == 25) = false := by simp [hkind]
  have q26 : (n.kind == 26) = true := by simp [hkind]
  clear hkind
  have hd0 : decide (n.b = 0) = true := by simpa using h0
  have hd1 : decide (n.c = 0) = false := by simpa using h1
  have hn1 : ¬ n.c = 0 := by simpa using h1
  have M2 := Aside0.mk ((((Mem.start w).allocAt rfl #[.int .i64 n.kind, .int .i64 n.a, .int .i64 n.b, .int .i64 n.c, .slice A4 n.list.length c4, .slice A5 n.names.length c5, .int .u64 n.num, .int .i64 n.at_] 142).allocAt (g := w.heap.size + 1) (by simp) #[.int .i64 n.a, fnV 0] 153).allocAt (g := w.heap.size + 1 + 1) (by simp) #[.int .i64 n.b, fnV 0] 153)
  go_enter Try.func107, Try.ntmps107
  go_upto_region 18 with fail
  go_region_held3 (fun W => (∀ o, W.cell? ⟨w.heap.size, o, none⟩ = (#[.int .i64 n.kind, .int .i64 n.a, .int .i64 n.b, .int .i64 n.c, .slice A4 n.list.length c4, .slice A5 n.names.length c5, .int .u64 n.num, .int .i64 n.at_] : Array Value)[o]?) ∧ (∀ o, W.cell? ⟨w.heap.size + 1, o, none⟩ = (#[.int .i64 n.a, fnV 0] : Array Value)[o]?) ∧ (∀ o, W.cell? ⟨w.heap.size + 1 + 1, o, none⟩ = (#[.int .i64 n.b, fnV 0] : Array Value)[o]?)) (first | exact ⟨(M2.out.drew).box (.tail _ (.tail _ (.head _))), (M2.out.drew).box (.tail _ (.head _)), (M2.out.drew).box (.head _)⟩ | exact ⟨(M2.out.drew.step (below_alloc (Below.refl _ _) _)).box (.tail _ (.tail _ (.head _))), (M2.out.drew.step (below_alloc (Below.refl _ _) _)).box (.tail _ (.head _)), (M2.out.drew.step (below_alloc (Below.refl _ _) _)).box (.head _)⟩) (fail)
  all_goals (go_wp2; go_ret2; exact ⟨_, by first | rfl | simp [*] | (simp only [*]; rfl), (by first | (refine R_litd _ _ _ [⟨n.a, 0⟩] _ _ ?_ ?_ ?_ ?_ ?_ <;> first | rfl | (simp; done) | (simp; omega)) | (refine R_litg _ _ _ [⟨n.a, 0⟩] _ _ ?_ ?_ ?_ ?_ ?_ <;> first | rfl | (simp; done) | (simp; omega)) | (refine R_litn _ _ _ [⟨n.a, 0⟩] _ _ _ ?_ ?_ ?_ ?_ ?_ <;> first | rfl | (simp; done) | (simp; omega))), by repeat (first | exact Below.refl _ _ | apply below_alloc | apply below_drew1 | apply pw_below_drewN)⟩)
set_option maxHeartbeats 8000000 in
set_option maxRecDepth 100000 in
theorem wants_26_2 (n : Node) (cs : List Value) (w : World) (hk : kNodeI.K w n cs) (hkind : n.kind = 26) (h0 : (n.b == 0) = true) (h1 : (n.c == 0) = true) :
    Calls Try.prog 107 #[.agg ⟨cs⟩] w fun e w' => ∃ v, e = .returned (.tuple #[v, .bool true]) ∧ kWant.R 153 w' w.heap.size (fun _ => True) v [⟨n.a, 0⟩] ∧ Below w.heap.size w w' := by
  obtain ⟨A4, c4, A5, c5, rfl, h4, g4, h5, g5⟩ := kNodeI_open hk
  clear hk g4 g5 h4 h5
  have q1 : (n.kind == 1) = false := by simp [hkind]
  have q2 : (n.kind == 2) = false := by simp [hkind]
  have q3 : (n.kind == 3) = false := by simp [hkind]
  have q4 : (n.kind == 4) = false := by simp [hkind]
  have q5 : (n.kind == 5) = false := by simp [hkind]
  have q6 : (n.kind == 6) = false := by simp [hkind]
  have q7 : (n.kind == 7) = false := by simp [hkind]
  have q8 : (n.kind == 8) = false := by simp [hkind]
  have q21 : (n.kind == 21) = false := by simp [hkind]
  have q22 : (n.kind == 22) = false := by simp [hkind]
  have q25 : (n.kind == 25) = false := by simp [hkind]
  have q26 : (n.kind == 26) = true := by simp [hkind]
  clear hkind
  have hd0 : decide (n.b = 0) = true := by simpa using h0
  have hd1 : decide (n.c = 0) = true := by simpa using h1
  have M2 := Aside0.mk ((((Mem.start w).allocAt rfl #[.int .i64 n.kind, .int .i64 n.a, .int .i64 n.b, .int .i64 n.c, .slice A4 n.list.length c4, .slice A5 n.names.length c5, .int .u64 n.num, .int .i64 n.at_] 142).allocAt (g := w.heap.size + 1) (by simp) #[.int .i64 n.a, fnV 0] 153).allocAt (g := w.heap.size + 1 + 1) (by simp) #[.int .i64 n.b, fnV 0] 153)
  go_enter Try.func107, Try.ntmps107
  go_upto_region 18 with fail
  go_region_held3 (fun W => (∀ o, W.cell? ⟨w.heap.size, o, none⟩ = (#[.int .i64 n.kind, .int .i64 n.a, .int .i64 n.b, .int .i64 n.c, .slice A4 n.list.length c4, .slice A5 n.names.length c5, .int .u64 n.num, .int .i64 n.at_] : Array Value)[o]?) ∧ (∀ o, W.cell? ⟨w.heap.size + 1, o, none⟩ = (#[.int .i64 n.a, fnV 0] : Array Value)[o]?) ∧ (∀ o, W.cell? ⟨w.heap.size + 1 + 1, o, none⟩ = (#[.int .i64 n.b, fnV 0] : Array Value)[o]?)) (first | exact ⟨(M2.out.drew).box (.tail _ (.tail _ (.head _))), (M2.out.drew).box (.tail _ (.head _)), (M2.out.drew).box (.head _)⟩ | exact ⟨(M2.out.drew.step (below_alloc (Below.refl _ _) _)).box (.tail _ (.tail _ (.head _))), (M2.out.drew.step (below_alloc (Below.refl _ _) _)).box (.tail _ (.head _)), (M2.out.drew.step (below_alloc (Below.refl _ _) _)).box (.head _)⟩) (fail)
  all_goals (go_wp2; go_ret2; exact ⟨_, by first | rfl | simp [*] | (simp only [*]; rfl), (by first | (refine R_litd _ _ _ [⟨n.a, 0⟩] _ _ ?_ ?_ ?_ ?_ ?_ <;> first | rfl | (simp; done) | (simp; omega)) | (refine R_litg _ _ _ [⟨n.a, 0⟩] _ _ ?_ ?_ ?_ ?_ ?_ <;> first | rfl | (simp; done) | (simp; omega)) | (refine R_litn _ _ _ [⟨n.a, 0⟩] _ _ _ ?_ ?_ ?_ ?_ ?_ <;> first | rfl | (simp; done) | (simp; omega))), by repeat (first | exact Below.refl _ _ | apply below_alloc | apply below_drew1 | apply pw_below_drewN)⟩)
end Go.Proofs.Ytlhfhfamifmijaa.LeafN
end
section
namespace Go.Proofs.Ytlhfhfamifmijaa.LeafN
open Go.RowKit Go.Proofs.YtlhfhfamifmijaaW.PrintWords Go.Proofs.YtlhfhfamifmijaaW.PrintMore Go.Proofs.Ytlhfhfamifmijaa.Law Go.Proofs.Ytlhfhfamifmijaa.Num Go.Proofs.Ytlhfhfamifmijaa
set_option linter.unusedVariables false
set_option linter.unusedSimpArgs false
set_option autoImplicit false
set_option maxHeartbeats 8000000 in
set_option maxRecDepth 100000 in
theorem wants_28_0 (n : Node) (cs : List Value) (w : World) (hk : kNodeI.K w n cs) (hkind : n.kind = 28) (h0 : (n.b == 0) = false) :
    Calls Try.prog 107 #[.agg ⟨cs⟩] w fun e w' => ∃ v, e = .returned (.tuple #[v, .bool false]) ∧ kWant.R 153 w' w.heap.size (fun _ => True) v [⟨n.a, 0⟩] ∧ Below w.heap.size w w' := by
  obtain ⟨A4, c4, A5, c5, rfl, h4, g4, h5, g5⟩ := kNodeI_open hk
  clear hk g4 g5 h4 h5
  have q1 : (n.kind == 1) = false := by simp [hkind]
  have q2 : (n.kind == 2) = false := by simp [hkind]
  have q3 : (n.kind == 3) = false := by simp [hkind]
  have q4 : (n.kind == 4) = false := by simp [hkind]
  have q5 : (n.kind == 5) = false := by simp [hkind]
  have q6 : (n.kind == 6) = false := by simp [hkind]
  have q7 : (n.kind == 7) = false := by simp [hkind]
  have q8 : (n.kind == 8) = false := by simp [hkind]
  have q21 : (n.kind == 21) = false := by simp [hkind]
  have q22 : (n.kind == 22) = false := by simp [hkind]
  have q25 : (n.kind == 25) = false := by simp [hkind]
  have q26 : (n.kind == 26) = false := by simp [hkind]
  have q28 : (n.kind == 28) = true := by simp [hkind]
  clear hkind
  have hd0 : decide (n.b = 0) = false := by simpa using h0
  have hn0 : ¬ n.b = 0 := by simpa using h0
  have M2 := Aside0.mk ((((Mem.start w).allocAt rfl #[.int .i64 n.kind, .int .i64 n.a, .int .i64 n.b, .int .i64 n.c, .slice A4 n.list.length c4, .slice A5 n.names.length c5, .int .u64 n.num, .int .i64 n.at_] 142).allocAt (g := w.heap.size + 1) (by simp) #[.int .i64 n.a, fnV 0] 153).allocAt (g := w.heap.size + 1 + 1) (by simp) #[.int .i64 n.b, fnV 0] 153)
  go_enter Try.func107, Try.ntmps107
  go_upto_region 18 with fail
  refine wp_region_held_drew (S := (fun W => (∀ o, W.cell? ⟨w.heap.size, o, none⟩ = (#[.int .i64 n.kind, .int .i64 n.a, .int .i64 n.b, .int .i64 n.c, .slice A4 n.list.length c4, .slice A5 n.names.length c5, .int .u64 n.num, .int .i64 n.at_] : Array Value)[o]?) ∧ (∀ o, W.cell? ⟨w.heap.size + 1, o, none⟩ = (#[.int .i64 n.a, fnV 0] : Array Value)[o]?) ∧ (∀ o, W.cell? ⟨w.heap.size + 1 + 1, o, none⟩ = (#[.int .i64 n.b, fnV 0] : Array Value)[o]?))) (by kernel_rfl) ?_ (fun hHeld => ?_)
  · first | exact ⟨(M2.out.drew).box (.tail _ (.tail _ (.head _))), (M2.out.drew).box (.tail _ (.head _)), (M2.out.drew).box (.head _)⟩ | exact ⟨(M2.out.drew.step (below_alloc (Below.refl _ _) _)).box (.tail _ (.tail _ (.head _))), (M2.out.drew.step (below_alloc (Below.refl _ _) _)).box (.tail _ (.head _)), (M2.out.drew.step (below_alloc (Below.refl _ _) _)).box (.head _)⟩
  refine wpAnyH_take (i := 0) (oi := _) (v := ?v0_1) rfl (by kernel_rfl) (by kernel_rfl) (by kernel_rfl) (fun _ _ _ h => h) (Or.inl ⟨by rfl, ?hy0_1⟩) (by assumption) ?rest0_1
  case hy0_1 => (intro w hSw; (try dsimp only at hSw); go_simp; try with_reducible rfl)
  try simp only [Act.put, List.getElem_toArray, List.getElem_cons_zero, List.getElem_cons_succ, List.setIfInBounds_toArray, List.set_cons_zero, List.set_cons_succ]
  refine wpAnyH_take (i := 2) (oi := _) (v := ?v2_2) rfl (by kernel_rfl) (by kernel_rfl) (by kernel_rfl) (fun _ _ _ h => h) (Or.inl ⟨by rfl, ?hy2_2⟩) (by assumption) ?rest2_2
  case hy2_2 => (intro w hSw; (try dsimp only at hSw); go_simp; try with_reducible rfl)
  try simp only [Act.put, List.getElem_toArray, List.getElem_cons_zero, List.getElem_cons_succ, List.setIfInBounds_toArray, List.set_cons_zero, List.set_cons_succ]
  refine wpAnyH_take (i := 3) (oi := _) (v := ?v3_3) rfl (by kernel_rfl) (by kernel_rfl) (by kernel_rfl) (fun _ _ _ h => h) (Or.inl ⟨by rfl, ?hy3_3⟩) (by assumption) ?rest3_3
  case hy3_3 => (intro w hSw; (try dsimp only at hSw); go_simp; try with_reducible rfl)
  try simp only [Act.put, List.getElem_toArray, List.getElem_cons_zero, List.getElem_cons_succ, List.setIfInBounds_toArray, List.set_cons_zero, List.set_cons_succ]
  refine wpAnyH_take (i := 4) (oi := _) (v := ?v4_4) rfl (by kernel_rfl) (by kernel_rfl) (by kernel_rfl) (fun _ _ _ h => h) (Or.inl ⟨by rfl, ?hy4_4⟩) (by assumption) ?rest4_4
  case hy4_4 => (intro w hSw; (try dsimp only at hSw); go_simp; try with_reducible rfl)
  try simp only [Act.put, List.getElem_toArray, List.getElem_cons_zero, List.getElem_cons_succ, List.setIfInBounds_toArray, List.set_cons_zero, List.set_cons_succ]
  refine wpAnyH_take (i := 5) (oi := _) (v := ?v5_5) rfl (by kernel_rfl) (by kernel_rfl) (by kernel_rfl) (fun _ _ _ h => h) (Or.inl ⟨by rfl, ?hy5_5⟩) (by assumption) ?rest5_5
  case hy5_5 => (intro w hSw; (try dsimp only at hSw); go_simp; try with_reducible rfl)
  try simp only [Act.put, List.getElem_toArray, List.getElem_cons_zero, List.getElem_cons_succ, List.setIfInBounds_toArray, List.set_cons_zero, List.set_cons_succ]
  refine wpAnyH_take (i := 6) (oi := _) (v := undef) rfl (by kernel_rfl) (by kernel_rfl) (by kernel_rfl) (fun _ _ _ h => h) (Or.inr ⟨by kernel_rfl, rfl⟩) (by assumption) ?_
  try simp only [Act.put, List.getElem_toArray, List.getElem_cons_zero, List.getElem_cons_succ, List.setIfInBounds_toArray, List.set_cons_zero, List.set_cons_succ]
  refine wpAnyH_take (i := 7) (oi := _) (v := undef) rfl (by kernel_rfl) (by kernel_rfl) (by kernel_rfl) (fun _ _ _ h => h) (Or.inr ⟨by kernel_rfl, rfl⟩) (by assumption) ?_
  try simp only [Act.put, List.getElem_toArray, List.getElem_cons_zero, List.getElem_cons_succ, List.setIfInBounds_toArray, List.set_cons_zero, List.set_cons_succ]
  refine wpAnyH_take (i := 8) (oi := _) (v := undef) rfl (by kernel_rfl) (by kernel_rfl) (by kernel_rfl) (fun _ _ _ h => h) (Or.inr ⟨by kernel_rfl, rfl⟩) (by assumption) ?_
  try simp only [Act.put, List.getElem_toArray, List.getElem_cons_zero, List.getElem_cons_succ, List.setIfInBounds_toArray, List.set_cons_zero, List.set_cons_succ]
  refine wpAnyH_take (i := 9) (oi := _) (v := ?v9_6) rfl (by kernel_rfl) (by kernel_rfl) (by kernel_rfl) (fun _ _ _ h => h) (Or.inl ⟨by rfl, ?hy9_6⟩) (by assumption) ?rest9_6
  case hy9_6 => (intro w hSw; (try dsimp only at hSw); go_simp; try with_reducible rfl)
  try simp only [Act.put, List.getElem_toArray, List.getElem_cons_zero, List.getElem_cons_succ, List.setIfInBounds_toArray, List.set_cons_zero, List.set_cons_succ]
  refine wpAnyH_ready (rs := [1]) (by kernel_rfl) (by simp) ?_
  refine AllReadyH.cons (o := _) rfl (fun K hK => ?_) AllReadyH.nil
  go_simp
  refine hK.out _ _ ?_ (fun hHeld => ?_)
  · first | exact ⟨(M2.out.drew).box (.tail _ (.tail _ (.head _))), (M2.out.drew).box (.tail _ (.head _)), (M2.out.drew).box (.head _)⟩ | exact ⟨(M2.out.drew.step (below_alloc (Below.refl _ _) _)).box (.tail _ (.tail _ (.head _))), (M2.out.drew.step (below_alloc (Below.refl _ _) _)).box (.tail _ (.head _)), (M2.out.drew.step (below_alloc (Below.refl _ _) _)).box (.head _)⟩
  clear hK K
  try simp only [Act.put, List.getElem_toArray, List.getElem_cons_zero, List.getElem_cons_succ, List.setIfInBounds_toArray, List.set_cons_zero, List.set_cons_succ]
  refine wpAnyH_take (i := 10) (oi := _) (v := ?v10_7) rfl (by kernel_rfl) (by kernel_rfl) (by kernel_rfl) (fun _ _ _ h => h) (Or.inl ⟨by rfl, ?hy10_7⟩) (by assumption) ?rest10_7
  case hy10_7 => (intro w hSw; (try dsimp only at hSw); go_simp; try with_reducible rfl)
  try simp only [Act.put, List.getElem_toArray, List.getElem_cons_zero, List.getElem_cons_succ, List.setIfInBounds_toArray, List.set_cons_zero, List.set_cons_succ]
  refine wpAnyH_take (i := 11) (oi := _) (v := ?v11_8) rfl (by kernel_rfl) (by kernel_rfl) (by kernel_rfl) (fun _ _ _ h => h) (Or.inl ⟨by rfl, ?hy11_8⟩) (by assumption) ?rest11_8
  case hy11_8 => (intro w hSw; (try dsimp only at hSw); go_simp; try with_reducible rfl)
  try simp only [Act.put, List.getElem_toArray, List.getElem_cons_zero, List.getElem_cons_succ, List.setIfInBounds_toArray, List.set_cons_zero, List.set_cons_succ]
  refine wpAnyH_done (by kernel_rfl) ?_ _
  go_wp2; go_ret2; exact ⟨_, by first | rfl | simp [*] | (simp only [*]; rfl), (by first | (refine R_litd _ _ _ [⟨n.a, 0⟩] _ _ ?_ ?_ ?_ ?_ ?_ <;> first | rfl | (simp; done) | (simp; omega)) | (refine R_litg _ _ _ [⟨n.a, 0⟩] _ _ ?_ ?_ ?_ ?_ ?_ <;> first | rfl | (simp; done) | (simp; omega)) | (refine R_litn _ _ _ [⟨n.a, 0⟩] _ _ _ ?_ ?_ ?_ ?_ ?_ <;> first | rfl | (simp; done) | (simp; omega))), by repeat (first | exact Below.refl _ _ | apply below_alloc | apply below_drew1 | apply pw_below_drewN)⟩
set_option maxHeartbeats 8000000 in
set_option maxRecDepth 100000 in
theorem wants_28_1 (n : Node) (cs : List Value) (w : World) (hk : kNodeI.K w n cs) (hkind : n.kind = 28) (h0 : (n.b == 0) = true) (h1 : (n.c == 0) = false) :
    Calls Try.prog 107 #[.agg ⟨cs⟩] w fun e w' => ∃ v, e = .returned (.tuple #[v, .bool false]) ∧ kWant.R 153 w' w.heap.size (fun _ => True) v [⟨n.a, 0⟩] ∧ Below w.heap.size w w' := by
  obtain ⟨A4, c4, A5, c5, rfl, h4, g4, h5, g5⟩ := kNodeI_open hk
  clear hk g4 g5 h4 h5
  have q1 : (n.kind == 1) = false := by simp [hkind]
  have q2 : (n.kind == 2) = false := by simp [hkind]
  have q3 : (n.kind == 3) = false := by simp [hkind]
  have q4 : (n.kind == 4) = false := by simp [hkind]
  have q5 : (n.kind == 5) = false := by simp [hkind]
  have q6 : (n.kind == 6) = false := by simp [hkind]
  have q7 : (n.kind == 7) = false := by simp [hkind]
  have q8 : (n.kind == 8) = false := by simp [hkind]
  have q21 : (n.kind == 21) = false := by simp [hkind]
  have q22 : (n.kind == 22) = false := by simp [hkind]
  have q25 : (n.kind == 25) = false := by simp [hkind]
  have q26 : (n.kind == 26) = false := by simp [hkind]
  have q28 : (n.kind == 28) = true := by simp [hkind]
  clear hkind
  have hd0 : decide (n.b = 0) = true := by simpa using h0
  have hd1 : decide (n.c = 0) = false := by simpa using h1
  have hn1 : ¬ n.c = 0 := by simpa using h1
  have M2 := Aside0.mk ((((Mem.start w).allocAt rfl #[.int .i64 n.kind, .int .i64 n.a, .int .i64 n.b, .int .i64 n.c, .slice A4 n.list.length c4, .slice A5 n.names.length c5, .int .u64 n.num, .int .i64 n.at_] 142).allocAt (g := w.heap.size + 1) (by simp) #[.int .i64 n.a, fnV 0] 153).allocAt (g := w.heap.size + 1 + 1) (by simp) #[.int .i64 n.b, fnV 0] 153)
  go_enter Try.func107, Try.ntmps107
  go_upto_region 18 with fail
  go_region_held3 (fun W => (∀ o, W.cell? ⟨w.heap.size, o, none⟩ = (#[.int .i64 n.kind, .int .i64 n.a, .int .i64 n.b, .int .i64 n.c, .slice A4 n.list.length c4, .slice A5 n.names.length c5, .int .u64 n.num, .int .i64 n.at_] : Array Value)[o]?) ∧ (∀ o, W.cell? ⟨w.heap.size + 1, o, none⟩ = (#[.int .i64 n.a, fnV 0] : Array Value)[o]?) ∧ (∀ o, W.cell? ⟨w.heap.size + 1 + 1, o, none⟩ = (#[.int .i64 n.b, fnV 0] : Array Value)[o]?)) (first | exact ⟨(M2.out.drew).box (.tail _ (.tail _ (.head _))), (M2.out.drew).box (.tail _ (.head _)), (M2.out.drew).box (.head _)⟩ | exact ⟨(M2.out.drew.step (below_alloc (Below.refl _ _) _)).box (.tail _ (.tail _ (.head _))), (M2.out.drew.step (below_alloc (Below.refl _ _) _)).box (.tail _ (.head _)), (M2.out.drew.step (below_alloc (Below.refl _ _) _)).box (.head _)⟩) (fail)
  all_goals (go_wp2; go_ret2; exact ⟨_, by first | rfl | simp [*] | (simp only [*]; rfl), (by first | (refine R_litd _ _ _ [⟨n.a, 0⟩] _ _ ?_ ?_ ?_ ?_ ?_ <;> first | rfl | (simp; done) | (simp; omega)) | (refine R_litg _ _ _ [⟨n.a, 0⟩] _ _ ?_ ?_ ?_ ?_ ?_ <;> first | rfl | (simp; done) | (simp; omega)) | (refine R_litn _ _ _ [⟨n.a, 0⟩] _ _ _ ?_ ?_ ?_ ?_ ?_ <;> first | rfl | (simp; done) | (simp; omega))), by repeat (first | exact Below.refl _ _ | apply below_alloc | apply below_drew1 | apply pw_below_drewN)⟩)
set_option maxHeartbeats 8000000 in
set_option maxRecDepth 100000 in
theorem wants_28_2 (n : Node) (cs : List Value) (w : World) (hk : kNodeI.K w n cs) (hkind : n.kind = 28) (h0 : (n.b == 0) = true) (h1 : (n.c == 0) = true) :
    Calls Try.prog 107 #[.agg ⟨cs⟩] w fun e w' => ∃ v, e = .returned (.tuple #[v, .bool true]) ∧ kWant.R 153 w' w.heap.size (fun _ => True) v [⟨n.a, 0⟩] ∧ Below w.heap.size w w' := by
  obtain ⟨A4, c4, A5, c5, rfl, h4, g4, h5, g5⟩ := kNodeI_open hk
  clear hk g4 g5 h4 h5
  have q1 : (n.kind == 1) = false := by simp [hkind]
  have q2 : (n.kind == 2) = false := by simp [hkind]
  have q3 : (n.kind == 3) = false := by simp [hkind]
  have q4 : (n.kind == 4) = false := by simp [hkind]
  have q5 : (n.kind == 5) = false := by simp [hkind]
  have q6 : (n.kind == 6) = false := by simp [hkind]
  have q7 : (n.kind == 7) = false := by simp [hkind]
  have q8 : (n.kind == 8) = false := by simp [hkind]
  have q21 : (n.kind == 21) = false := by simp [hkind]
  have q22 : (n.kind == 22) = false := by simp [hkind]
  have q25 : (n.kind == 25) = false := by simp [hkind]
  have q26 : (n.kind == 26) = false := by simp [hkind]
  have q28 : (n.kind == 28) = true := by simp [hkind]
  clear hkind
  have hd0 : decide (n.b = 0) = true := by simpa using h0
  have hd1 : decide (n.c = 0) = true := by simpa using h1
  have M2 := Aside0.mk ((((Mem.start w).allocAt rfl #[.int .i64 n.kind, .int .i64 n.a, .int .i64 n.b, .int .i64 n.c, .slice A4 n.list.length c4, .slice A5 n.names.length c5, .int .u64 n.num, .int .i64 n.at_] 142).allocAt (g := w.heap.size + 1) (by simp) #[.int .i64 n.a, fnV 0] 153).allocAt (g := w.heap.size + 1 + 1) (by simp) #[.int .i64 n.b, fnV 0] 153)
  go_enter Try.func107, Try.ntmps107
  go_upto_region 18 with fail
  go_region_held3 (fun W => (∀ o, W.cell? ⟨w.heap.size, o, none⟩ = (#[.int .i64 n.kind, .int .i64 n.a, .int .i64 n.b, .int .i64 n.c, .slice A4 n.list.length c4, .slice A5 n.names.length c5, .int .u64 n.num, .int .i64 n.at_] : Array Value)[o]?) ∧ (∀ o, W.cell? ⟨w.heap.size + 1, o, none⟩ = (#[.int .i64 n.a, fnV 0] : Array Value)[o]?) ∧ (∀ o, W.cell? ⟨w.heap.size + 1 + 1, o, none⟩ = (#[.int .i64 n.b, fnV 0] : Array Value)[o]?)) (first | exact ⟨(M2.out.drew).box (.tail _ (.tail _ (.head _))), (M2.out.drew).box (.tail _ (.head _)), (M2.out.drew).box (.head _)⟩ | exact ⟨(M2.out.drew.step (below_alloc (Below.refl _ _) _)).box (.tail _ (.tail _ (.head _))), (M2.out.drew.step (below_alloc (Below.refl _ _) _)).box (.tail _ (.head _)), (M2.out.drew.step (below_alloc (Below.refl _ _) _)).box (.head _)⟩) (fail)
  all_goals (go_wp2; go_ret2; exact ⟨_, by first | rfl | simp [*] | (simp only [*]; rfl), (by first | (refine R_litd _ _ _ [⟨n.a, 0⟩] _ _ ?_ ?_ ?_ ?_ ?_ <;> first | rfl | (simp; done) | (simp; omega)) | (refine R_litg _ _ _ [⟨n.a, 0⟩] _ _ ?_ ?_ ?_ ?_ ?_ <;> first | rfl | (simp; done) | (simp; omega)) | (refine R_litn _ _ _ [⟨n.a, 0⟩] _ _ _ ?_ ?_ ?_ ?_ ?_ <;> first | rfl | (simp; done) | (simp; omega))), by repeat (first | exact Below.refl _ _ | apply below_alloc | apply below_drew1 | apply pw_below_drewN)⟩)
set_option maxHeartbeats 8000000 in
set_option maxRecDepth 100000 in
theorem wants_13_0 (n : Node) (cs : List Value) (w : World) (hk : kNodeI.K w n cs) (hkind : n.kind = 13) (h0 : (n.b == 0) = false) :
    Calls Try.prog 107 #[.agg ⟨cs⟩] w fun e w' => ∃ v, e = .returned (.tuple #[v, .bool false]) ∧ kWant.R 153 w' w.heap.size (fun _ => True) v [⟨n.a, 1⟩] ∧ Below w.heap.size w w' := by
  obtain ⟨A4, c4, A5, c5, rfl, h4, g4, h5, g5⟩ := kNodeI_open hk
  clear hk g4 g5 h4 h5
  have q1 : (n.kind == 1) = false := by simp [hkind]
  have q2 : (n.kind == 2) = false := by simp [hkind]
  have q3 : (n.kind == 3) = false := by simp [hkind]
  have q4 : (n.kind == 4) = false := by simp [hkind]
  have q5 : (n.kind == 5) = false := by simp [hkind]
  have q6 : (n.kind == 6) = false := by simp [hkind]
  have q7 : (n.kind == 7) = false := by simp [hkind]
  have q8 : (n.kind == 8) = false := by simp [hkind]
  have q21 : (n.kind == 21) = false := by simp [hkind]
  have q22 : (n.kind == 22) = false := by simp [hkind]
  have q25 : (n.kind == 25) = false := by simp [hkind]
  have q26 : (n.kind == 26) = false := by simp [hkind]
  have q28 : (n.kind == 28) = false := by simp [hkind]
  have q20 : (n.kind == 20) = false := by simp [hkind]
  have q9 : (n.kind == 9) = false := by simp [hkind]
  have q10 : (n.kind == 10) = false := by simp [hkind]
  have q11 : (n.kind == 11) = false := by simp [hkind]
  have q13 : (n.kind == 13) = true := by simp [hkind]
  clear hkind
  have hd0 : decide (n.b = 0) = false := by simpa using h0
  have hn0 : ¬ n.b = 0 := by simpa using h0
  have M2 := Aside0.mk ((((Mem.start w).allocAt rfl #[.int .i64 n.kind, .int .i64 n.a, .int .i64 n.b, .int .i64 n.c, .slice A4 n.list.length c4, .slice A5 n.names.length c5, .int .u64 n.num, .int .i64 n.at_] 142).allocAt (g := w.heap.size + 1) (by simp) #[.int .i64 n.a, fnV 0] 153).allocAt (g := w.heap.size + 1 + 1) (by simp) #[.int .i64 n.b, fnV 0] 153)
  go_enter Try.func107, Try.ntmps107
  go_upto_region 27 with fail
  refine wp_region_held_drew (S := (fun W => (∀ o, W.cell? ⟨w.heap.size, o, none⟩ = (#[.int .i64 n.kind, .int .i64 n.a, .int .i64 n.b, .int .i64 n.c, .slice A4 n.list.length c4, .slice A5 n.names.length c5, .int .u64 n.num, .int .i64 n.at_] : Array Value)[o]?) ∧ (∀ o, W.cell? ⟨w.heap.size + 1, o, none⟩ = (#[.int .i64 n.a, fnV 0] : Array Value)[o]?) ∧ (∀ o, W.cell? ⟨w.heap.size + 1 + 1, o, none⟩ = (#[.int .i64 n.b, fnV 0] : Array Value)[o]?))) (by kernel_rfl) ?_ (fun hHeld => ?_)
  · first | exact ⟨(M2.out.drew).box (.tail _ (.tail _ (.head _))), (M2.out.drew).box (.tail _ (.head _)), (M2.out.drew).box (.head _)⟩ | exact ⟨(M2.out.drew.step (below_alloc (Below.refl _ _) _)).box (.tail _ (.tail _ (.head _))), (M2.out.drew.step (below_alloc (Below.refl _ _) _)).box (.tail _ (.head _)), (M2.out.drew.step (below_alloc (Below.refl _ _) _)).box (.head _)⟩
  refine wpAnyH_take (i := 0) (oi := _) (v := ?v0_1) rfl (by kernel_rfl) (by kernel_rfl) (by kernel_rfl) (fun _ _ _ h => h) (Or.inl ⟨by rfl, ?hy0_1⟩) (by assumption) ?rest0_1
  case hy0_1 => (intro w hSw; (try dsimp only at hSw); go_simp; try with_reducible rfl)
  try simp only [Act.put, List.getElem_toArray, List.getElem_cons_zero, List.getElem_cons_succ, List.setIfInBounds_toArray, List.set_cons_zero, List.set_cons_succ]
  refine wpAnyH_take (i := 1) (oi := _) (v := ?v1_2) rfl (by kernel_rfl) (by kernel_rfl) (by kernel_rfl) (fun _ _ _ h => h) (Or.inl ⟨by rfl, ?hy1_2⟩) (by assumption) ?rest1_2
  case hy1_2 => (intro w hSw; (try dsimp only at hSw); go_simp; try with_reducible rfl)
  try simp only [Act.put, List.getElem_toArray, List.getElem_cons_zero, List.getElem_cons_succ, List.setIfInBounds_toArray, List.set_cons_zero, List.set_cons_succ]
  refine wpAnyH_take (i := 2) (oi := _) (v := ?v2_3) rfl (by kernel_rfl) (by kernel_rfl) (by kernel_rfl) (fun _ _ _ h => h) (Or.inl ⟨by rfl, ?hy2_3⟩) (by assumption) ?rest2_3
  case hy2_3 => (intro w hSw; (try dsimp only at hSw); go_simp; try with_reducible rfl)
  try simp only [Act.put, List.getElem_toArray, List.getElem_cons_zero, List.getElem_cons_succ, List.setIfInBounds_toArray, List.set_cons_zero, List.set_cons_succ]
  refine wpAnyH_take (i := 4) (oi := _) (v := ?v4_4) rfl (by kernel_rfl) (by kernel_rfl) (by kernel_rfl) (fun _ _ _ h => h) (Or.inl ⟨by rfl, ?hy4_4⟩) (by assumption) ?rest4_4
  case hy4_4 => (intro w hSw; (try dsimp only at hSw); go_simp; try with_reducible rfl)
  try simp only [Act.put, List.getElem_toArray, List.getElem_cons_zero, List.getElem_cons_succ, List.setIfInBounds_toArray, List.set_cons_zero, List.set_cons_succ]
  refine wpAnyH_take (i := 5) (oi := _) (v := ?v5_5) rfl (by kernel_rfl) (by kernel_rfl) (by kernel_rfl) (fun _ _ _ h => h) (Or.inl ⟨by rfl, ?hy5_5⟩) (by assumption) ?rest5_5
  case hy5_5 => (intro w hSw; (try dsimp only at hSw); go_simp; try with_reducible rfl)
  try simp only [Act.put, List.getElem_toArray, List.getElem_cons_zero, List.getElem_cons_succ, List.setIfInBounds_toArray, List.set_cons_zero, List.set_cons_succ]
  refine wpAnyH_take (i := 6) (oi := _) (v := ?v6_6) rfl (by kernel_rfl) (by kernel_rfl) (by kernel_rfl) (fun _ _ _ h => h) (Or.inl ⟨by rfl, ?hy6_6⟩) (by assumption) ?rest6_6
  case hy6_6 => (intro w hSw; (try dsimp only at hSw); go_simp; try with_reducible rfl)
  try simp only [Act.put, List.getElem_toArray, List.getElem_cons_zero, List.getElem_cons_succ, List.setIfInBounds_toArray, List.set_cons_zero, List.set_cons_succ]
  refine wpAnyH_take (i := 7) (oi := _) (v := ?v7_7) rfl (by kernel_rfl) (by kernel_rfl) (by kernel_rfl) (fun _ _ _ h => h) (Or.inl ⟨by rfl, ?hy7_7⟩) (by assumption) ?rest7_7
  case hy7_7 => (intro w hSw; (try dsimp only at hSw); go_simp; try with_reducible rfl)
  try simp only [Act.put, List.getElem_toArray, List.getElem_cons_zero, List.getElem_cons_succ, List.setIfInBounds_toArray, List.set_cons_zero, List.set_cons_succ]
  refine wpAnyH_take (i := 8) (oi := _) (v := undef) rfl (by kernel_rfl) (by kernel_rfl) (by kernel_rfl) (fun _ _ _ h => h) (Or.inr ⟨by kernel_rfl, rfl⟩) (by assumption) ?_
  try simp only [Act.put, List.getElem_toArray, List.getElem_cons_zero, List.getElem_cons_succ, List.setIfInBounds_toArray, List.set_cons_zero, List.set_cons_succ]
  refine wpAnyH_take (i := 9) (oi := _) (v := undef) rfl (by kernel_rfl) (by kernel_rfl) (by kernel_rfl) (fun _ _ _ h => h) (Or.inr ⟨by kernel_rfl, rfl⟩) (by assumption) ?_
  try simp only [Act.put, List.getElem_toArray, List.getElem_cons_zero, List.getElem_cons_succ, List.setIfInBounds_toArray, List.set_cons_zero, List.set_cons_succ]
  refine wpAnyH_take (i := 10) (oi := _) (v := undef) rfl (by kernel_rfl) (by kernel_rfl) (by kernel_rfl) (fun _ _ _ h => h) (Or.inr ⟨by kernel_rfl, rfl⟩) (by assumption) ?_
  try simp only [Act.put, List.getElem_toArray, List.getElem_cons_zero, List.getElem_cons_succ, List.setIfInBounds_toArray, List.set_cons_zero, List.set_cons_succ]
  refine wpAnyH_take (i := 11) (oi := _) (v := ?v11_8) rfl (by kernel_rfl) (by kernel_rfl) (by kernel_rfl) (fun _ _ _ h => h) (Or.inl ⟨by rfl, ?hy11_8⟩) (by assumption) ?rest11_8
  case hy11_8 => (intro w hSw; (try dsimp only at hSw); go_simp; try with_reducible rfl)
  try simp only [Act.put, List.getElem_toArray, List.getElem_cons_zero, List.getElem_cons_succ, List.setIfInBounds_toArray, List.set_cons_zero, List.set_cons_succ]
  refine wpAnyH_ready (rs := [3]) (by kernel_rfl) (by simp) ?_
  refine AllReadyH.cons (o := _) rfl (fun K hK => ?_) AllReadyH.nil
  go_simp
  refine hK.out _ _ ?_ (fun hHeld => ?_)
  · first | exact ⟨(M2.out.drew).box (.tail _ (.tail _ (.head _))), (M2.out.drew).box (.tail _ (.head _)), (M2.out.drew).box (.head _)⟩ | exact ⟨(M2.out.drew.step (below_alloc (Below.refl _ _) _)).box (.tail _ (.tail _ (.head _))), (M2.out.drew.step (below_alloc (Below.refl _ _) _)).box (.tail _ (.head _)), (M2.out.drew.step (below_alloc (Below.refl _ _) _)).box (.head _)⟩
  clear hK K
  try simp only [Act.put, List.getElem_toArray, List.getElem_cons_zero, List.getElem_cons_succ, List.setIfInBounds_toArray, List.set_cons_zero, List.set_cons_succ]
  refine wpAnyH_take (i := 12) (oi := _) (v := ?v12_9) rfl (by kernel_rfl) (by kernel_rfl) (by kernel_rfl) (fun _ _ _ h => h) (Or.inl ⟨by rfl, ?hy12_9⟩) (by assumption) ?rest12_9
  case hy12_9 => (intro w hSw; (try dsimp only at hSw); go_simp; try with_reducible rfl)
  try simp only [Act.put, List.getElem_toArray, List.getElem_cons_zero, List.getElem_cons_succ, List.setIfInBounds_toArray, List.set_cons_zero, List.set_cons_succ]
  refine wpAnyH_take (i := 13) (oi := _) (v := ?v13_10) rfl (by kernel_rfl) (by kernel_rfl) (by kernel_rfl) (fun _ _ _ h => h) (Or.inl ⟨by rfl, ?hy13_10⟩) (by assumption) ?rest13_10
  case hy13_10 => (intro w hSw; (try dsimp only at hSw); go_simp; try with_reducible rfl)
  try simp only [Act.put, List.getElem_toArray, List.getElem_cons_zero, List.getElem_cons_succ, List.setIfInBounds_toArray, List.set_cons_zero, List.set_cons_succ]
  refine wpAnyH_done (by kernel_rfl) ?_ _
  go_wp2; go_ret2; exact ⟨_, by first | rfl | simp [*] | (simp only [*]; rfl), (by first | (refine R_litd _ _ _ [⟨n.a, 1⟩] _ _ ?_ ?_ ?_ ?_ ?_ <;> first | rfl | (simp; done) | (simp; omega)) | (refine R_litg _ _ _ [⟨n.a, 1⟩] _ _ ?_ ?_ ?_ ?_ ?_ <;> first | rfl | (simp; done) | (simp; omega)) | (refine R_litn _ _ _ [⟨n.a, 1⟩] _ _ _ ?_ ?_ ?_ ?_ ?_ <;> first | rfl | (simp; done) | (simp; omega))), by repeat (first | exact Below.refl _ _ | apply below_alloc | apply below_drew1 | apply pw_below_drewN)⟩
set_option maxHeartbeats 8000000 in
set_option maxRecDepth 100000 in
theorem wants_13_1 (n : Node) (cs : List Value) (w : World) (hk : kNodeI.K w n cs) (hkind : n.kind = 13) (h0 : (n.b == 0) = true) (h1 : (n.c == 0) = false) :
    Calls Try.prog 107 #[.agg ⟨cs⟩] w fun e w' => ∃ v, e = .returned (.tuple #[v, .bool false]) ∧ kWant.R 153 w' w.heap.size (fun _ => True) v [⟨n.a, 1⟩] ∧ Below w.heap.size w w' := by
  obtain ⟨A4, c4, A5, c5, rfl, h4, g4, h5, g5⟩ := kNodeI_open hk
  clear hk g4 g5 h4 h5
  have q1 : (n.kind == 1) = false := by simp [hkind]
  have q2 : (n.kind == 2) = false := by simp [hkind]
  have q3 : (n.kind == 3) = false := by simp [hkind]
  have q4 : (n.kind == 4) = false := by simp [hkind]
  have q5 : (n.kind == 5) = false := by simp [hkind]
  have q6 : (n.kind == 6) = false := by simp [hkind]
  have q7 : (n.kind == 7) = false := by simp [hkind]
  have q8 : (n.kind == 8) = false := by simp [hkind]
  have q21 : (n.kind == 21) = false := by simp [hkind]
  have q22 : (n.kind == 22) = false := by simp [hkind]
  have q25 : (n.kind == 25) = false := by simp [hkind]
  have q26 : (n.kind == 26) = false := by simp [hkind]
  have q28 : (n.kind == 28) = false := by simp [hkind]
  have q20 : (n.kind == 20) = false := by simp [hkind]
  have q9 : (n.kind == 9) = false := by simp [hkind]
  have q10 : (n.kind == 10) = false := by simp [hkind]
  have q11 : (n.kind == 11) = false := by simp [hkind]
  have q13 : (n.kind == 13) = true := by simp [hkind]
  clear hkind
  have hd0 : decide (n.b = 0) = true := by simpa using h0
  have hd1 : decide (n.c = 0) = false := by simpa using h1
  have hn1 : ¬ n.c = 0 := by simpa using h1
  have M2 := Aside0.mk ((((Mem.start w).allocAt rfl #[.int .i64 n.kind, .int .i64 n.a, .int .i64 n.b, .int .i64 n.c, .slice A4 n.list.length c4, .slice A5 n.names.length c5, .int .u64 n.num, .int .i64 n.at_] 142).allocAt (g := w.heap.size + 1) (by simp) #[.int .i64 n.a, fnV 0] 153).allocAt (g := w.heap.size + 1 + 1) (by simp) #[.int .i64 n.b, fnV 0] 153)
  go_enter Try.func107, Try.ntmps107
  go_upto_region 27 with fail
  go_region_held3 (fun W => (∀ o, W.cell? ⟨w.heap.size, o, none⟩ = (#[.int .i64 n.kind, .int .i64 n.a, .int .i64 n.b, .int .i64 n.c, .slice A4 n.list.length c4, .slice A5 n.names.length c5, .int .u64 n.num, .int .i64 n.at_] : Array Value)[o]?) ∧ (∀ o, W.cell? ⟨w.heap.size + 1, o, none⟩ = (#[.int .i64 n.a, fnV 0] : Array Value)[o]?) ∧ (∀ o, W.cell? ⟨w.heap.size + 1 + 1, o, none⟩ = (#[.int .i64 n.b, fnV 0] : Array Value)[o]?)) (first | exact ⟨(M2.out.drew).box (.tail _ (.tail _ (.head _))), (M2.out.drew).box (.tail _ (.head _)), (M2.out.drew).box (.head _)⟩ | exact ⟨(M2.out.drew.step (below_alloc (Below.refl _ _) _)).box (.tail _ (.tail _ (.head _))), (M2.out.drew.step (below_alloc (Below.refl _ _) _)).box (.tail _ (.head _)), (M2.out.drew.step (below_alloc (Below.refl _ _) _)).box (.head _)⟩) (fail)
  all_goals (go_wp2; go_ret2; exact ⟨_, by first | rfl | simp [*] | (simp only [*]; rfl), (by first | (refine R_litd _ _ _ [⟨n.a, 1⟩] _ _ ?_ ?_ ?_ ?_ ?_ <;> first | rfl | (simp; done) | (simp; omega)) | (refine R_litg _ _ _ [⟨n.a, 1⟩] _ _ ?_ ?_ ?_ ?_ ?_ <;> first | rfl | (simp; done) | (simp; omega)) | (refine R_litn _ _ _ [⟨n.a, 1⟩] _ _ _ ?_ ?_ ?_ ?_ ?_ <;> first | rfl | (simp; done) | (simp; omega))), by repeat (first | exact Below.refl _ _ | apply below_alloc | apply below_drew1 | apply pw_below_drewN)⟩)
set_option maxHeartbeats 8000000 in
set_option maxRecDepth 100000 in
theorem wants_13_2 (n : Node) (cs : List Value) (w : World) (hk : kNodeI.K w n cs) (hkind : n.kind = 13) (h0 : (n.b == 0) = true) (h1 : (n.c == 0) = true) :
    Calls Try.prog 107 #[.agg ⟨cs⟩] w fun e w' => ∃ v, e = .returned (.tuple #[v, .bool true]) ∧ kWant.R 153 w' w.heap.size (fun _ => True) v [⟨n.a, 1⟩] ∧ Below w.heap.size w w' := by
  obtain ⟨A4, c4, A5, c5, rfl, h4, g4, h5, g5⟩ := kNodeI_open hk
  clear hk g4 g5 h4 h5
  have q1 : (n.kind == 1) = false := by simp [hkind]
  have q2 : (n.kind == 2) = false := by simp [hkind]
  have q3 : (n.kind == 3) = false := by simp [hkind]
  have q4 : (n.kind == 4) = false := by simp [hkind]
  have q5 : (n.kind == 5) = false := by simp [hkind]
  have q6 : (n.kind == 6) = false := by simp [hkind]
  have q7 : (n.kind == 7) = false := by simp [hkind]
  have q8 : (n.kind == 8) = false := by simp [hkind]
  have q21 : (n.kind == 21) = false := by simp [hkind]
  have q22 : (n.kind == 22) = false := by simp [hkind]
  have q25 : (n.kind == 25) = false := by simp [hkind]
  have q26 : (n.kind == 26) = false := by simp [hkind]
  have q28 : (n.kind == 28) = false := by simp [hkind]
  have q20 : (n.kind == 20) = false := by simp [hkind]
  have q9 : (n.kind == 9) = false := by simp [hkind]
  have q10 : (n.kind == 10) = false := by simp [hkind]
  have q11 : (n.kind == 11) = false := by simp [hkind]
  have q13 : (n.kind == 13) = true := by simp [hkind]
  clear hkind
  have hd0 : decide (n.b = 0) = true := by simpa using h0
  have hd1 : decide (n.c = 0) = true := by simpa using h1
  have M2 := Aside0.mk ((((Mem.start w).allocAt rfl #[.int .i64 n.kind, .int .i64 n.a, .int .i64 n.b, .int .i64 n.c, .slice A4 n.list.length c4, .slice A5 n.names.length c5, .int .u64 n.num, .int .i64 n.at_] 142).allocAt (g := w.heap.size + 1) (by simp) #[.int .i64 n.a, fnV 0] 153).allocAt (g := w.heap.size + 1 + 1) (by simp) #[.int .i64 n.b, fnV 0] 153)
  go_enter Try.func107, Try.ntmps107
  go_upto_region 27 with fail
  go_region_held3 (fun W => (∀ o, W.cell? ⟨w.heap.size, o, none⟩ = (#[.int .i64 n.kind, .int .i64 n.a, .int .i64 n.b, .int .i64 n.c, .slice A4 n.list.length c4, .slice A5 n.names.length c5, .int .u64 n.num, .int .i64 n.at_] : Array Value)[o]?) ∧ (∀ o, W.cell? ⟨w.heap.size + 1, o, none⟩ = (#[.int .i64 n.a, fnV 0] : Array Value)[o]?) ∧ (∀ o, W.cell? ⟨w.heap.size + 1 + 1, o, none⟩ = (#[.int .i64 n.b, fnV 0] : Array Value)[o]?)) (first | exact ⟨(M2.out.drew).box (.tail _ (.tail _ (.head _))), (M2.out.drew).box (.tail _ (.head _)), (M2.out.drew).box (.head _)⟩ | exact ⟨(M2.out.drew.step (below_alloc (Below.refl _ _) _)).box (.tail _ (.tail _ (.head _))), (M2.out.drew.step (below_alloc (Below.refl _ _) _)).box (.tail _ (.head _)), (M2.out.drew.step (below_alloc (Below.refl _ _) _)).box (.head _)⟩) (fail)
  all_goals (go_wp2; go_ret2; exact ⟨_, by first | rfl | simp [*] | (simp only [*]; rfl), (by first | (refine R_litd _ _ _ [⟨n.a, 1⟩] _ _ ?_ ?_ ?_ ?_ ?_ <;> first | rfl | (simp; done) | (simp; omega)) | (refine R_litg _ _ _ [⟨n.a, 1⟩] _ _ ?_ ?_ ?_ ?_ ?_ <;> first | rfl | (simp; done) | (simp; omega)) | (refine R_litn _ _ _ [⟨n.a, 1⟩] _ _ _ ?_ ?_ ?_ ?_ ?_ <;> first | rfl | (simp; done) | (simp; omega))), by repeat (first | exact Below.refl _ _ | apply below_alloc | apply below_drew1 | apply pw_below_drewN)⟩)
set_option maxHeartbeats 8000000 in
set_option maxRecDepth 100000 in
theorem wants_12_0 (n : Node) (cs : List Value) (w : World) (hk : kNodeI.K w n cs) (hkind : n.kind = 12) (h0 : (n.b == 0) = false) :
    Calls Try.prog 107 #[.agg ⟨cs⟩] w fun e w' => ∃ v, e = .returned (.tuple #[v, .bool false]) ∧ kWant.R 153 w' w.heap.size (fun _ => True) v [⟨n.a, 0⟩] ∧ Below w.heap.size w w' := by
  obtain ⟨A4, c4, A5, c5, rfl, h4, g4, h5, g5⟩ := kNodeI_open hk
  clear hk g4 g5 h4 h5
  have q1 : (n.kind == 1) = false := by simp [hkind]
  have q2 : (n.kind == 2) = false := by simp [hkind]
  have q3 : (n.kind == 3) = false := by simp [hkind]
  have q4 : (n.kind == 4) = false := by simp [hkind]
  have q5 : (n.kind == 5) = false := by simp [hkind]
  have q6 : (n.kind == 6) = false := by simp [hkind]
  have q7 : (n.kind == 7) = false := by simp [hkind]
  have q8 : (n.kind == 8) = false := by simp [hkind]
  have q21 : (n.kind == 21) = false := by simp [hkind]
  have q22 : (n.kind == 22) = false := by simp [hkind]
  have q25 : (n.kind == 25) = false := by simp [hkind]
  have q26 : (n.kind == 26) = false := by simp [hkind]
  have q28 : (n.kind == 28) = false := by simp [hkind]
  have q20 : (n.kind == 20) = false := by simp [hkind]
  have q9 : (n.kind == 9) = false := by simp [hkind]
  have q10 : (n.kind == 10) = false := by simp [hkind]
  have q11 : (n.kind == 11) = false := by simp [hkind]
  have q13 : (n.kind == 13) = false := by simp [hkind]
  have q24 : (n.kind == 24) = false := by simp [hkind]
  have q27 : (n.kind == 27) = false := by simp [hkind]
  have q23 : (n.kind == 23) = false := by simp [hkind]
  have q12 : (n.kind == 12) = true := by simp [hkind]
  clear hkind
  have hd0 : decide (n.b = 0) = false := by simpa using h0
  have hn0 : ¬ n.b = 0 := by simpa using h0
  have M2 := Aside0.mk ((((Mem.start w).allocAt rfl #[.int .i64 n.kind, .int .i64 n.a, .int .i64 n.b, .int .i64 n.c, .slice A4 n.list.length c4, .slice A5 n.names.length c5, .int .u64 n.num, .int .i64 n.at_] 142).allocAt (g := w.heap.size + 1) (by simp) #[.int .i64 n.a, fnV 0] 153).allocAt (g := w.heap.size + 1 + 1) (by simp) #[.int .i64 n.b, fnV 0] 153)
  go_enter Try.func107, Try.ntmps107
  go_upto_region 38 with fail
  refine wp_region_held_drew (S := (fun W => (∀ o, W.cell? ⟨w.heap.size, o, none⟩ = (#[.int .i64 n.kind, .int .i64 n.a, .int .i64 n.b, .int .i64 n.c, .slice A4 n.list.length c4, .slice A5 n.names.length c5, .int .u64 n.num, .int .i64 n.at_] : Array Value)[o]?) ∧ (∀ o, W.cell? ⟨w.heap.size + 1, o, none⟩ = (#[.int .i64 n.a, fnV 0] : Array Value)[o]?) ∧ (∀ o, W.cell? ⟨w.heap.size + 1 + 1, o, none⟩ = (#[.int .i64 n.b, fnV 0] : Array Value)[o]?))) (by kernel_rfl) ?_ (fun hHeld => ?_)
  · first | exact ⟨(M2.out.drew).box (.tail _ (.tail _ (.head _))), (M2.out.drew).box (.tail _ (.head _)), (M2.out.drew).box (.head _)⟩ | exact ⟨(M2.out.drew.step (below_alloc (Below.refl _ _) _)).box (.tail _ (.tail _ (.head _))), (M2.out.drew.step (below_alloc (Below.refl _ _) _)).box (.tail _ (.head _)), (M2.out.drew.step (below_alloc (Below.refl _ _) _)).box (.head _)⟩
  refine wpAnyH_take (i := 0) (oi := _) (v := ?v0_1) rfl (by kernel_rfl) (by kernel_rfl) (by kernel_rfl) (fun _ _ _ h => h) (Or.inl ⟨by rfl, ?hy0_1⟩) (by assumption) ?rest0_1
  case hy0_1 => (intro w hSw; (try dsimp only at hSw); go_simp; try with_reducible rfl)
  try simp only [Act.put, List.getElem_toArray, List.getElem_cons_zero, List.getElem_cons_succ, List.setIfInBounds_toArray, List.set_cons_zero, List.set_cons_succ]
  refine wpAnyH_take (i := 2) (oi := _) (v := ?v2_2) rfl (by kernel_rfl) (by kernel_rfl) (by kernel_rfl) (fun _ _ _ h => h) (Or.inl ⟨by rfl, ?hy2_2⟩) (by assumption) ?rest2_2
  case hy2_2 => (intro w hSw; (try dsimp only at hSw); go_simp; try with_reducible rfl)
  try simp only [Act.put, List.getElem_toArray, List.getElem_cons_zero, List.getElem_cons_succ, List.setIfInBounds_toArray, List.set_cons_zero, List.set_cons_succ]
  refine wpAnyH_take (i := 3) (oi := _) (v := ?v3_3) rfl (by kernel_rfl) (by kernel_rfl) (by kernel_rfl) (fun _ _ _ h => h) (Or.inl ⟨by rfl, ?hy3_3⟩) (by assumption) ?rest3_3
  case hy3_3 => (intro w hSw; (try dsimp only at hSw); go_simp; try with_reducible rfl)
  try simp only [Act.put, List.getElem_toArray, List.getElem_cons_zero, List.getElem_cons_succ, List.setIfInBounds_toArray, List.set_cons_zero, List.set_cons_succ]
  refine wpAnyH_take (i := 4) (oi := _) (v := ?v4_4) rfl (by kernel_rfl) (by kernel_rfl) (by kernel_rfl) (fun _ _ _ h => h) (Or.inl ⟨by rfl, ?hy4_4⟩) (by assumption) ?rest4_4
  case hy4_4 => (intro w hSw; (try dsimp only at hSw); go_simp; try with_reducible rfl)
  try simp only [Act.put, List.getElem_toArray, List.getElem_cons_zero, List.getElem_cons_succ, List.setIfInBounds_toArray, List.set_cons_zero, List.set_cons_succ]
  refine wpAnyH_take (i := 5) (oi := _) (v := ?v5_5) rfl (by kernel_rfl) (by kernel_rfl) (by kernel_rfl) (fun _ _ _ h => h) (Or.inl ⟨by rfl, ?hy5_5⟩) (by assumption) ?rest5_5
  case hy5_5 => (intro w hSw; (try dsimp only at hSw); go_simp; try with_reducible rfl)
  try simp only [Act.put, List.getElem_toArray, List.getElem_cons_zero, List.getElem_cons_succ, List.setIfInBounds_toArray, List.set_cons_zero, List.set_cons_succ]
  refine wpAnyH_take (i := 6) (oi := _) (v := undef) rfl (by kernel_rfl) (by kernel_rfl) (by kernel_rfl) (fun _ _ _ h => h) (Or.inr ⟨by kernel_rfl, rfl⟩) (by assumption) ?_
  try simp only [Act.put, List.getElem_toArray, List.getElem_cons_zero, List.getElem_cons_succ, List.setIfInBounds_toArray, List.set_cons_zero, List.set_cons_succ]
  refine wpAnyH_take (i := 7) (oi := _) (v := undef) rfl (by kernel_rfl) (by kernel_rfl) (by kernel_rfl) (fun _ _ _ h => h) (Or.inr ⟨by kernel_rfl, rfl⟩) (by assumption) ?_
  try simp only [Act.put, List.getElem_toArray, List.getElem_cons_zero, List.getElem_cons_succ, List.setIfInBounds_toArray, List.set_cons_zero, List.set_cons_succ]
  refine wpAnyH_take (i := 8) (oi := _) (v := undef) rfl (by kernel_rfl) (by kernel_rfl) (by kernel_rfl) (fun _ _ _ h => h) (Or.inr ⟨by kernel_rfl, rfl⟩) (by assumption) ?_
  try simp only [Act.put, List.getElem_toArray, List.getElem_cons_zero, List.getElem_cons_succ, List.setIfInBounds_toArray, List.set_cons_zero, List.set_cons_succ]
  refine wpAnyH_take (i := 9) (oi := _) (v := ?v9_6) rfl (by kernel_rfl) (by kernel_rfl) (by kernel_rfl) (fun _ _ _ h => h) (Or.inl ⟨by rfl, ?hy9_6⟩) (by assumption) ?rest9_6
  case hy9_6 => (intro w hSw; (try dsimp only at hSw); go_simp; try with_reducible rfl)
  try simp only [Act.put, List.getElem_toArray, List.getElem_cons_zero, List.getElem_cons_succ, List.setIfInBounds_toArray, List.set_cons_zero, List.set_cons_succ]
  refine wpAnyH_ready (rs := [1]) (by kernel_rfl) (by simp) ?_
  refine AllReadyH.cons (o := _) rfl (fun K hK => ?_) AllReadyH.nil
  go_simp
  refine hK.out _ _ ?_ (fun hHeld => ?_)
  · first | exact ⟨(M2.out.drew).box (.tail _ (.tail _ (.head _))), (M2.out.drew).box (.tail _ (.head _)), (M2.out.drew).box (.head _)⟩ | exact ⟨(M2.out.drew.step (below_alloc (Below.refl _ _) _)).box (.tail _ (.tail _ (.head _))), (M2.out.drew.step (below_alloc (Below.refl _ _) _)).box (.tail _ (.head _)), (M2.out.drew.step (below_alloc (Below.refl _ _) _)).box (.head _)⟩
  clear hK K
  try simp only [Act.put, List.getElem_toArray, List.getElem_cons_zero, List.getElem_cons_succ, List.setIfInBounds_toArray, List.set_cons_zero, List.set_cons_succ]
  refine wpAnyH_take (i := 10) (oi := _) (v := ?v10_7) rfl (by kernel_rfl) (by kernel_rfl) (by kernel_rfl) (fun _ _ _ h => h) (Or.inl ⟨by rfl, ?hy10_7⟩) (by assumption) ?rest10_7
  case hy10_7 => (intro w hSw; (try dsimp only at hSw); go_simp; try with_reducible rfl)
  try simp only [Act.put, List.getElem_toArray, List.getElem_cons_zero, List.getElem_cons_succ, List.setIfInBounds_toArray, List.set_cons_zero, List.set_cons_succ]
  refine wpAnyH_take (i := 11) (oi := _) (v := ?v11_8) rfl (by kernel_rfl) (by kernel_rfl) (by kernel_rfl) (fun _ _ _ h => h) (Or.inl ⟨by rfl, ?hy11_8⟩) (by assumption) ?rest11_8
  case hy11_8 => (intro w hSw; (try dsimp only at hSw); go_simp; try with_reducible rfl)
  try simp only [Act.put, List.getElem_toArray, List.getElem_cons_zero, List.getElem_cons_succ, List.setIfInBounds_toArray, List.set_cons_zero, List.set_cons_succ]
  refine wpAnyH_done (by kernel_rfl) ?_ _
  go_wp2; go_ret2; exact ⟨_, by first | rfl | simp [*] | (simp only [*]; rfl), (by first | (refine R_litd _ _ _ [⟨n.a, 0⟩] _ _ ?_ ?_ ?_ ?_ ?_ <;> first | rfl | (simp; done) | (simp; omega)) | (refine R_litg _ _ _ [⟨n.a, 0⟩] _ _ ?_ ?_ ?_ ?_ ?_ <;> first | rfl | (simp; done) | (simp; omega)) | (refine R_litn _ _ _ [⟨n.a, 0⟩] _ _ _ ?_ ?_ ?_ ?_ ?_ <;> first | rfl | (simp; done) | (simp; omega))), by repeat (first | exact Below.refl _ _ | apply below_alloc | apply below_drew1 | apply pw_below_drewN)⟩
set_option maxHeartbeats 8000000 in
set_option maxRecDepth 100000 in
theorem wants_12_1 (n : Node) (cs : List Value) (w : World) (hk : kNodeI.K w n cs) (hkind : n.kind = 12) (h0 : (n.b == 0) = true) (h1 : (n.c == 0) = false) :
    Calls Try.prog 107 #[.agg ⟨cs⟩] w fun e w' => ∃ v, e = .returned (.tuple #[v, .bool false]) ∧ kWant.R 153 w' w.heap.size (fun _ => True) v [⟨n.a, 0⟩] ∧ Below w.heap.size w w' := by
  obtain ⟨A4, c4, A5, c5, rfl, h4, g4, h5, g5⟩ := kNodeI_open hk
  clear hk g4 g5 h4 h5
  have q1 : (n.kind == 1) = false := by simp [hkind]
  have q2 : (n.kind == 2) = false := by simp [hkind]
  have q3 : (n.kind == 3) = false := by simp [hkind]
  have q4 : (n.kind == 4) = false := by simp [hkind]
  have q5 : (n.kind == 5) = false := by simp [hkind]
  have q6 : (n.kind == 6) = false := by simp [hkind]
  have q7 : (n.kind == 7) = false := by simp [hkind]
  have q8 : (n.kind == 8) = false := by simp [hkind]
  have q21 : (n.kind == 21) = false := by simp [hkind]
  have q22 : (n.kind == 22) = false := by simp [hkind]
  have q25 : (n.kind == 25) = false := by simp [hkind]
  have q26 : (n.kind == 26) = false := by simp [hkind]
  have q28 : (n.kind == 28) = false := by simp [hkind]
  have q20 : (n.kind == 20) = false := by simp [hkind]
  have q9 : (n.kind == 9) = false := by simp [hkind]
  have q10 : (n.kind == 10) = false := by simp [hkind]
  have q11 : (n.kind == 11) = false := by simp [hkind]
  have q13 : (n.kind == 13) = false := by simp [hkind]
  have q24 : (n.kind == 24) = false := by simp [hkind]
  have q27 : (n.kind == 27) = false := by simp [hkind]
  have q23 : (n.kind == 23) = false := by simp [hkind]
  have q12 : (n.kind == 12) = true := by simp [hkind]
  clear hkind
  have hd0 : decide (n.b = 0) = true := by simpa using h0
  have hd1 : decide (n.c = 0) = false := by simpa using h1
  have hn1 : ¬ n.c = 0 := by simpa using h1
  have M2 := Aside0.mk ((((Mem.start w).allocAt rfl #[.int .i64 n.kind, .int .i64 n.a, .int .i64 n.b, .int .i64 n.c, .slice A4 n.list.length c4, .slice A5 n.names.length c5, .int .u64 n.num, .int .i64 n.at_] 142).allocAt (g := w.heap.size + 1) (by simp) #[.int .i64 n.a, fnV 0] 153).allocAt (g := w.heap.size + 1 + 1) (by simp) #[.int .i64 n.b, fnV 0] 153)
  go_enter Try.func107, Try.ntmps107
  go_upto_region 38 with fail
  go_region_held3 (fun W => (∀ o, W.cell? ⟨w.heap.size, o, none⟩ = (#[.int .i64 n.kind, .int .i64 n.a, .int .i64 n.b, .int .i64 n.c, .slice A4 n.list.length c4, .slice A5 n.names.length c5, .int .u64 n.num, .int .i64 n.at_] : Array Value)[o]?) ∧ (∀ o, W.cell? ⟨w.heap.size + 1, o, none⟩ = (#[.int .i64 n.a, fnV 0] : Array Value)[o]?) ∧ (∀ o, W.cell? ⟨w.heap.size + 1 + 1, o, none⟩ = (#[.int .i64 n.b, fnV 0] : Array Value)[o]?)) (first | exact ⟨(M2.out.drew).box (.tail _ (.tail _ (.head _))), (M2.out.drew).box (.tail _ (.head _)), (M2.out.drew).box (.head _)⟩ | exact ⟨(M2.out.drew.step (below_alloc (Below.refl _ _) _)).box (.tail _ (.tail _ (.head _))), (M2.out.drew.step (below_alloc (Below.refl _ _) _)).box (.tail _ (.head _)), (M2.out.drew.step (below_alloc (Below.refl _ _) _)).box (.head _)⟩) (fail)
  all_goals (go_wp2; go_ret2; exact ⟨_, by first | rfl | simp [*] | (simp only [*]; rfl), (by first | (refine R_litd _ _ _ [⟨n.a, 0⟩] _ _ ?_ ?_ ?_ ?_ ?_ <;> first | rfl | (simp; done) | (simp; omega)) | (refine R_litg _ _ _ [⟨n.a, 0⟩] _ _ ?_ ?_ ?_ ?_ ?_ <;> first | rfl | (simp; done) | (simp; omega)) | (refine R_litn _ _ _ [⟨n.a, 0⟩] _ _ _ ?_ ?_ ?_ ?_ ?_ <;> first | rfl | (simp; done) | (simp; omega))), by repeat (first | exact Below.refl _ _ | apply below_alloc | apply below_drew1 | apply pw_below_drewN)⟩)
set_option maxHeartbeats 8000000 in
set_option maxRecDepth 100000 in
theorem wants_12_2 (n : Node) (cs : List Value) (w : World) (hk : kNodeI.K w n cs) (hkind : n.kind = 12) (h0 : (n.b == 0) = true) (h1 : (n.c == 0) = true) :
    Calls Try.prog 107 #[.agg ⟨cs⟩] w fun e w' => ∃ v, e = .returned (.tuple #[v, .bool true]) ∧ kWant.R 153 w' w.heap.size (fun _ => True) v [⟨n.a, 0⟩] ∧ Below w.heap.size w w' := by
  obtain ⟨A4, c4, A5, c5, rfl, h4, g4, h5, g5⟩ := kNodeI_open hk
  clear hk g4 g5 h4 h5
  have q1 : (n.kind == 1) = false := by simp [hkind]
  have q2 : (n.kind == 2) = false := by simp [hkind]
  have q3 : (n.kind == 3) = false := by simp [hkind]
  have q4 : (n.kind == 4) = false := by simp [hkind]
  have q5 : (n.kind == 5) = false := by simp [hkind]
  have q6 : (n.kind == 6) = false := by simp [hkind]
  have q7 : (n.kind == 7) = false := by simp [hkind]
  have q8 : (n.kind == 8) = false := by simp [hkind]
  have q21 : (n.kind == 21) = false := by simp [hkind]
  have q22 : (n.kind == 22) = false := by simp [hkind]
  have q25 : (n.kind == 25) = false := by simp [hkind]
  have q26 : (n.kind == 26) = false := by simp [hkind]
  have q28 : (n.kind == 28) = false := by simp [hkind]
  have q20 : (n.kind == 20) = false := by simp [hkind]
  have q9 : (n.kind == 9) = false := by simp [hkind]
  have q10 : (n.kind == 10) = false := by simp [hkind]
  have q11 : (n.kind == 11) = false := by simp [hkind]
  have q13 : (n.kind == 13) = false := by simp [hkind]
  have q24 : (n.kind == 24) = false := by simp [hkind]
  have q27 : (n.kind == 27) = false := by simp [hkind]
  have q23 : (n.kind == 23) = false := by simp [hkind]
  have q12 : (n.kind == 12) = true := by simp [hkind]
  clear hkind
  have hd0 : decide (n.b = 0) = true := by simpa using h0
  have hd1 : decide (n.c = 0) = true := by simpa using h1
  have M2 := Aside0.mk ((((Mem.start w).allocAt rfl #[.int .i64 n.kind, .int .i64 n.a, .int .i64 n.b, .int .i64 n.c, .slice A4 n.list.length c4, .slice A5 n.names.length c5, .int .u64 n.num, .int .i64 n.at_] 142).allocAt (g := w.heap.size + 1) (by simp) #[.int .i64 n.a, fnV 0] 153).allocAt (g := w.heap.size + 1 + 1) (by simp) #[.int .i64 n.b, fnV 0] 153)
  go_enter Try.func107, Try.ntmps107
  go_upto_region 38 with fail
  go_region_held3 (fun W => (∀ o, W.cell? ⟨w.heap.size, o, none⟩ = (#[.int .i64 n.kind, .int .i64 n.a, .int .i64 n.b, .int .i64 n.c, .slice A4 n.list.length c4, .slice A5 n.names.length c5, .int .u64 n.num, .int .i64 n.at_] : Array Value)[o]?) ∧ (∀ o, W.cell? ⟨w.heap.size + 1, o, none⟩ = (#[.int .i64 n.a, fnV 0] : Array Value)[o]?) ∧ (∀ o, W.cell? ⟨w.heap.size + 1 + 1, o, none⟩ = (#[.int .i64 n.b, fnV 0] : Array Value)[o]?)) (first | exact ⟨(M2.out.drew).box (.tail _ (.tail _ (.head _))), (M2.out.drew).box (.tail _ (.head _)), (M2.out.drew).box (.head _)⟩ | exact ⟨(M2.out.drew.step (below_alloc (Below.refl _ _) _)).box (.tail _ (.tail _ (.head _))), (M2.out.drew.step (below_alloc (Below.refl _ _) _)).box (.tail _ (.head _)), (M2.out.drew.step (below_alloc (Below.refl _ _) _)).box (.head _)⟩) (fail)
  all_goals (go_wp2; go_ret2; exact ⟨_, by first | rfl | simp [*] | (simp only [*]; rfl), (by first | (refine R_litd _ _ _ [⟨n.a, 0⟩] _ _ ?_ ?_ ?_ ?_ ?_ <;> first | rfl | (simp; done) | (simp; omega)) | (refine R_litg _ _ _ [⟨n.a, 0⟩] _ _ ?_ ?_ ?_ ?_ ?_ <;> first | rfl | (simp; done) | (simp; omega)) | (refine R_litn _ _ _ [⟨n.a, 0⟩] _ _ _ ?_ ?_ ?_ ?_ ?_ <;> first | rfl | (simp; done) | (simp; omega))), by repeat (first | exact Below.refl _ _ | apply below_alloc | apply below_drew1 | apply pw_below_drewN)⟩)
end Go.Proofs.Ytlhfhfamifmijaa.LeafN
end
