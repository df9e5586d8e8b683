/- Part 17 of the proof: general lemmas, contracts of functions, walks. No condition of its own. -/
import Derived.Deep.RegionHeld3
import Derived.Test.YtlhfhfamifmijaaK16
section
namespace Go.Proofs.Ytlhfhfamifmijaa.LeafN
open Go.RowKit Go.Proofs.YtlhfhfamifmijaaW.PrintWords Go.Proofs.YtlhfhfamifmijaaW.PrintMore Go.Proofs.Ytlhfhfamifmijaa.Law Go.Proofs.Ytlhfhfamifmijaa.Num Go.Proofs.Ytlhfhfamifmijaa
set_option linter.unusedVariables false
set_option linter.unusedSimpArgs false
set_option autoImplicit false
set_option maxHeartbeats 8000000 in
set_option maxRecDepth 100000 in
theorem wants_1_0 (n : Node) (cs : List Value) (w : World) (hk : kNodeI.K w n cs) (hkind : n.kind = 1) (h0 : (n.a == 0) = false) :
    Calls Try.prog 107 #[.agg ⟨cs⟩] w fun e w' => ∃ v, e = .returned (.tuple #[v, .bool false]) ∧ kWant.R 153 w' w.heap.size (fun _ => True) v [] ∧ Below w.heap.size w w' := by
  obtain ⟨A4, c4, A5, c5, rfl, h4, g4, h5, g5⟩ := kNodeI_open hk
  clear hk g4 g5 h4 h5
  have q1 : (n.kind == 1) = true := by simp [hkind]
  clear hkind
  have hd0 : decide (n.a = 0) = false := by simpa using h0
  have hn0 : ¬ n.a = 0 := by simpa using h0
  have M2 := Aside0.mk ((((Mem.start w).allocAt rfl #[.int .i64 n.kind, .int .i64 n.a, .int .i64 n.b, .int .i64 n.c, .slice A4 n.list.length c4, .slice A5 n.names.length c5, .int .u64 n.num, .int .i64 n.at_] 142).allocAt (g := w.heap.size + 1) (by simp) #[.int .i64 n.a, fnV 0] 153).allocAt (g := w.heap.size + 1 + 1) (by simp) #[.int .i64 n.b, fnV 0] 153)
  go_enter Try.func107, Try.ntmps107
  have zn := M2.out.box (.tail _ (.tail _ (.head _)))
  go_upto_region 10 with fail
  go_quiet (fail)
  go_wp2
  go_ret2
  exact ⟨_, by first | rfl | simp [*] | (simp only [*]; rfl), Kd.R_nil _ _ _ _ _, by repeat (first | exact Below.refl _ _ | apply below_alloc | apply below_drew1 | apply pw_below_drewN)⟩
set_option maxHeartbeats 8000000 in
set_option maxRecDepth 100000 in
theorem wants_1_1 (n : Node) (cs : List Value) (w : World) (hk : kNodeI.K w n cs) (hkind : n.kind = 1) (h0 : (n.a == 0) = true) (h1 : (n.b == 0) = false) :
    Calls Try.prog 107 #[.agg ⟨cs⟩] w fun e w' => ∃ v, e = .returned (.tuple #[v, .bool false]) ∧ kWant.R 153 w' w.heap.size (fun _ => True) v [] ∧ Below w.heap.size w w' := by
  obtain ⟨A4, c4, A5, c5, rfl, h4, g4, h5, g5⟩ := kNodeI_open hk
  clear hk g4 g5 h4 h5
  have q1 : (n.kind == 1) = true := by simp [hkind]
  clear hkind
  have hd0 : decide (n.a = 0) = true := by simpa using h0
  have hd1 : decide (n.b = 0) = false := by simpa using h1
  have hn1 : ¬ n.b = 0 := by simpa using h1
  have M2 := Aside0.mk ((((Mem.start w).allocAt rfl #[.int .i64 n.kind, .int .i64 n.a, .int .i64 n.b, .int .i64 n.c, .slice A4 n.list.length c4, .slice A5 n.names.length c5, .int .u64 n.num, .int .i64 n.at_] 142).allocAt (g := w.heap.size + 1) (by simp) #[.int .i64 n.a, fnV 0] 153).allocAt (g := w.heap.size + 1 + 1) (by simp) #[.int .i64 n.b, fnV 0] 153)
  go_enter Try.func107, Try.ntmps107
  have zn := M2.out.box (.tail _ (.tail _ (.head _)))
  go_upto_region 10 with fail
  go_quiet (fail)
  go_wp2
  go_ret2
  exact ⟨_, by first | rfl | simp [*] | (simp only [*]; rfl), Kd.R_nil _ _ _ _ _, by repeat (first | exact Below.refl _ _ | apply below_alloc | apply below_drew1 | apply pw_below_drewN)⟩
set_option maxHeartbeats 8000000 in
set_option maxRecDepth 100000 in
theorem wants_1_2 (n : Node) (cs : List Value) (w : World) (hk : kNodeI.K w n cs) (hkind : n.kind = 1) (h0 : (n.a == 0) = true) (h1 : (n.b == 0) = true) (h2 : (n.c == 0) = false) :
    Calls Try.prog 107 #[.agg ⟨cs⟩] w fun e w' => ∃ v, e = .returned (.tuple #[v, .bool false]) ∧ kWant.R 153 w' w.heap.size (fun _ => True) v [] ∧ Below w.heap.size w w' := by
  obtain ⟨A4, c4, A5, c5, rfl, h4, g4, h5, g5⟩ := kNodeI_open hk
  clear hk g4 g5 h4 h5
  have q1 : (n.kind == 1) = true := by simp [hkind]
  clear hkind
  have hd0 : decide (n.a = 0) = true := by simpa using h0
  have hd1 : decide (n.b = 0) = true := by simpa using h1
  have hd2 : decide (n.c = 0) = false := by simpa using h2
  have hn2 : ¬ n.c = 0 := by simpa using h2
  have M2 := Aside0.mk ((((Mem.start w).allocAt rfl #[.int .i64 n.kind, .int .i64 n.a, .int .i64 n.b, .int .i64 n.c, .slice A4 n.list.length c4, .slice A5 n.names.length c5, .int .u64 n.num, .int .i64 n.at_] 142).allocAt (g := w.heap.size + 1) (by simp) #[.int .i64 n.a, fnV 0] 153).allocAt (g := w.heap.size + 1 + 1) (by simp) #[.int .i64 n.b, fnV 0] 153)
  go_enter Try.func107, Try.ntmps107
  have zn := M2.out.box (.tail _ (.tail _ (.head _)))
  go_upto_region 10 with fail
  go_quiet (fail)
  go_wp2
  go_ret2
  exact ⟨_, by first | rfl | simp [*] | (simp only [*]; rfl), Kd.R_nil _ _ _ _ _, by repeat (first | exact Below.refl _ _ | apply below_alloc | apply below_drew1 | apply pw_below_drewN)⟩
set_option maxHeartbeats 8000000 in
set_option maxRecDepth 100000 in
theorem wants_1_3 (n : Node) (cs : List Value) (w : World) (hk : kNodeI.K w n cs) (hkind : n.kind = 1) (h0 : (n.a == 0) = true) (h1 : (n.b == 0) = true) (h2 : (n.c == 0) = true) :
    Calls Try.prog 107 #[.agg ⟨cs⟩] w fun e w' => ∃ v, e = .returned (.tuple #[v, .bool true]) ∧ kWant.R 153 w' w.heap.size (fun _ => True) v [] ∧ Below w.heap.size w w' := by
  obtain ⟨A4, c4, A5, c5, rfl, h4, g4, h5, g5⟩ := kNodeI_open hk
  clear hk g4 g5 h4 h5
  have q1 : (n.kind == 1) = true := by simp [hkind]
  clear hkind
  have hd0 : decide (n.a = 0) = true := by simpa using h0
  have hd1 : decide (n.b = 0) = true := by simpa using h1
  have hd2 : decide (n.c = 0) = true := by simpa using h2
  have M2 := Aside0.mk ((((Mem.start w).allocAt rfl #[.int .i64 n.kind, .int .i64 n.a, .int .i64 n.b, .int .i64 n.c, .slice A4 n.list.length c4, .slice A5 n.names.length c5, .int .u64 n.num, .int .i64 n.at_] 142).allocAt (g := w.heap.size + 1) (by simp) #[.int .i64 n.a, fnV 0] 153).allocAt (g := w.heap.size + 1 + 1) (by simp) #[.int .i64 n.b, fnV 0] 153)
  go_enter Try.func107, Try.ntmps107
  have zn := M2.out.box (.tail _ (.tail _ (.head _)))
  go_upto_region 10 with fail
  go_quiet (fail)
  go_wp2
  go_ret2
  exact ⟨_, by first | rfl | simp [*] | (simp only [*]; rfl), Kd.R_nil _ _ _ _ _, by repeat (first | exact Below.refl _ _ | apply below_alloc | apply below_drew1 | apply pw_below_drewN)⟩
set_option maxHeartbeats 8000000 in
set_option maxRecDepth 100000 in
theorem wants_2_0 (n : Node) (cs : List Value) (w : World) (hk : kNodeI.K w n cs) (hkind : n.kind = 2) (h0 : (n.a == 0) = false) :
    Calls Try.prog 107 #[.agg ⟨cs⟩] w fun e w' => ∃ v, e = .returned (.tuple #[v, .bool false]) ∧ kWant.R 153 w' w.heap.size (fun _ => True) v [] ∧ Below w.heap.size w w' := by
  obtain ⟨A4, c4, A5, c5, rfl, h4, g4, h5, g5⟩ := kNodeI_open hk
  clear hk g4 g5 h4 h5
  have q1 : (n.kind == 1) = false := by simp [hkind]
  have q2 : (n.kind == 2) = true := by simp [hkind]
  clear hkind
  have hd0 : decide (n.a = 0) = false := by simpa using h0
  have hn0 : ¬ n.a = 0 := by simpa using h0
  have M2 := Aside0.mk ((((Mem.start w).allocAt rfl #[.int .i64 n.kind, .int .i64 n.a, .int .i64 n.b, .int .i64 n.c, .slice A4 n.list.length c4, .slice A5 n.names.length c5, .int .u64 n.num, .int .i64 n.at_] 142).allocAt (g := w.heap.size + 1) (by simp) #[.int .i64 n.a, fnV 0] 153).allocAt (g := w.heap.size + 1 + 1) (by simp) #[.int .i64 n.b, fnV 0] 153)
  go_enter Try.func107, Try.ntmps107
  have zn := M2.out.box (.tail _ (.tail _ (.head _)))
  go_upto_region 10 with fail
  go_quiet (fail)
  go_wp2
  go_ret2
  exact ⟨_, by first | rfl | simp [*] | (simp only [*]; rfl), Kd.R_nil _ _ _ _ _, by repeat (first | exact Below.refl _ _ | apply below_alloc | apply below_drew1 | apply pw_below_drewN)⟩
set_option maxHeartbeats 8000000 in
set_option maxRecDepth 100000 in
theorem wants_2_1 (n : Node) (cs : List Value) (w : World) (hk : kNodeI.K w n cs) (hkind : n.kind = 2) (h0 : (n.a == 0) = true) (h1 : (n.b == 0) = false) :
    Calls Try.prog 107 #[.agg ⟨cs⟩] w fun e w' => ∃ v, e = .returned (.tuple #[v, .bool false]) ∧ kWant.R 153 w' w.heap.size (fun _ => True) v [] ∧ Below w.heap.size w w' := by
  obtain ⟨A4, c4, A5, c5, rfl, h4, g4, h5, g5⟩ := kNodeI_open hk
  clear hk g4 g5 h4 h5
  have q1 : (n.kind == 1) = false := by simp [hkind]
  have q2 : (n.kind == 2) = true := by simp [hkind]
  clear hkind
  have hd0 : decide (n.a = 0) = true := by simpa using h0
  have hd1 : decide (n.b = 0) = false := by simpa using h1
  have hn1 : ¬ n.b = 0 := by simpa using h1
  have M2 := Aside0.mk ((((Mem.start w).allocAt rfl #[.int .i64 n.kind, .int .i64 n.a, .int .i64 n.b, .int .i64 n.c, .slice A4 n.list.length c4, .slice A5 n.names.length c5, .int .u64 n.num, .int .i64 n.at_] 142).allocAt (g := w.heap.size + 1) (by simp) #[.int .i64 n.a, fnV 0] 153).allocAt (g := w.heap.size + 1 + 1) (by simp) #[.int .i64 n.b, fnV 0] 153)
  go_enter Try.func107, Try.ntmps107
  have zn := M2.out.box (.tail _ (.tail _ (.head _)))
  go_upto_region 10 with fail
  go_quiet (fail)
  go_wp2
  go_ret2
  exact ⟨_, by first | rfl | simp [*] | (simp only [*]; rfl), Kd.R_nil _ _ _ _ _, by repeat (first | exact Below.refl _ _ | apply below_alloc | apply below_drew1 | apply pw_below_drewN)⟩
set_option maxHeartbeats 8000000 in
set_option maxRecDepth 100000 in
theorem wants_2_2 (n : Node) (cs : List Value) (w : World) (hk : kNodeI.K w n cs) (hkind : n.kind = 2) (h0 : (n.a == 0) = true) (h1 : (n.b == 0) = true) (h2 : (n.c == 0) = false) :
    Calls Try.prog 107 #[.agg ⟨cs⟩] w fun e w' => ∃ v, e = .returned (.tuple #[v, .bool false]) ∧ kWant.R 153 w' w.heap.size (fun _ => True) v [] ∧ Below w.heap.size w w' := by
  obtain ⟨A4, c4, A5, c5, rfl, h4, g4, h5, g5⟩ := kNodeI_open hk
  clear hk g4 g5 h4 h5
  have q1 : (n.kind == 1) = false := by simp [hkind]
  have q2 : (n.kind == 2) = true := by simp [hkind]
  clear hkind
  have hd0 : decide (n.a = 0) = true := by simpa using h0
  have hd1 : decide (n.b = 0) = true := by simpa using h1
  have hd2 : decide (n.c = 0) = false := by simpa using h2
  have hn2 : ¬ n.c = 0 := by simpa using h2
  have M2 := Aside0.mk ((((Mem.start w).allocAt rfl #[.int .i64 n.kind, .int .i64 n.a, .int .i64 n.b, .int .i64 n.c, .slice A4 n.list.length c4, .slice A5 n.names.length c5, .int .u64 n.num, .int .i64 n.at_] 142).allocAt (g := w.heap.size + 1) (by simp) #[.int .i64 n.a, fnV 0] 153).allocAt (g := w.heap.size + 1 + 1) (by simp) #[.int .i64 n.b, fnV 0] 153)
  go_enter Try.func107, Try.ntmps107
  have zn := M2.out.box (.tail _ (.tail _ (.head _)))
  go_upto_region 10 with fail
  go_quiet (fail)
  go_wp2
  go_ret2
  exact ⟨_, by first | rfl | simp [*] | (simp only [*]; rfl), Kd.R_nil _ _ _ _ _, by repeat (first | exact Below.refl _ _ | apply below_alloc | apply below_drew1 | apply pw_below_drewN)⟩
set_option maxHeartbeats 8000000 in
set_option maxRecDepth 100000 in
theorem wants_2_3 (n : Node) (cs : List Value) (w : World) (hk : kNodeI.K w n cs) (hkind : n.kind = 2) (h0 : (n.a == 0) = true) (h1 : (n.b == 0) = true) (h2 : (n.c == 0) = true) :
    Calls Try.prog 107 #[.agg ⟨cs⟩] w fun e w' => ∃ v, e = .returned (.tuple #[v, .bool true]) ∧ kWant.R 153 w' w.heap.size (fun _ => True) v [] ∧ Below w.heap.size w w' := by
  obtain ⟨A4, c4, A5, c5, rfl, h4, g4, h5, g5⟩ := kNodeI_open hk
  clear hk g4 g5 h4 h5
  have q1 : (n.kind == 1) = false := by simp [hkind]
  have q2 : (n.kind == 2) = true := by simp [hkind]
  clear hkind
  have hd0 : decide (n.a = 0) = true := by simpa using h0
  have hd1 : decide (n.b = 0) = true := by simpa using h1
  have hd2 : decide (n.c = 0) = true := by simpa using h2
  have M2 := Aside0.mk ((((Mem.start w).allocAt rfl #[.int .i64 n.kind, .int .i64 n.a, .int .i64 n.b, .int .i64 n.c, .slice A4 n.list.length c4, .slice A5 n.names.length c5, .int .u64 n.num, .int .i64 n.at_] 142).allocAt (g := w.heap.size + 1) (by simp) #[.int .i64 n.a, fnV 0] 153).allocAt (g := w.heap.size + 1 + 1) (by simp) #[.int .i64 n.b, fnV 0] 153)
  go_enter Try.func107, Try.ntmps107
  have zn := M2.out.box (.tail _ (.tail _ (.head _)))
  go_upto_region 10 with fail
  go_quiet (fail)
  go_wp2
  go_ret2
  exact ⟨_, by first | rfl | simp [*] | (simp only [*]; rfl), Kd.R_nil _ _ _ _ _, by repeat (first | exact Below.refl _ _ | apply below_alloc | apply below_drew1 | apply pw_below_drewN)⟩
set_option maxHeartbeats 8000000 in
set_option maxRecDepth 100000 in
theorem wants_3_0 (n : Node) (cs : List Value) (w : World) (hk : kNodeI.K w n cs) (hkind : n.kind = 3) (h0 : (n.a == 0) = false) :
    Calls Try.prog 107 #[.agg ⟨cs⟩] w fun e w' => ∃ v, e = .returned (.tuple #[v, .bool false]) ∧ kWant.R 153 w' w.heap.size (fun _ => True) v [] ∧ Below w.heap.size w w' := by
  obtain ⟨A4, c4, A5, c5, rfl, h4, g4, h5, g5⟩ := kNodeI_open hk
  clear hk g4 g5 h4 h5
  have q1 : (n.kind == 1) = false := by simp [hkind]
  have q2 : (n.kind == 2) = false := by simp [hkind]
  have q3 : (n.kind == 3) = true := by simp [hkind]
  clear hkind
  have hd0 : decide (n.a = 0) = false := by simpa using h0
  have hn0 : ¬ n.a = 0 := by simpa using h0
  have M2 := Aside0.mk ((((Mem.start w).allocAt rfl #[.int .i64 n.kind, .int .i64 n.a, .int .i64 n.b, .int .i64 n.c, .slice A4 n.list.length c4, .slice A5 n.names.length c5, .int .u64 n.num, .int .i64 n.at_] 142).allocAt (g := w.heap.size + 1) (by simp) #[.int .i64 n.a, fnV 0] 153).allocAt (g := w.heap.size + 1 + 1) (by simp) #[.int .i64 n.b, fnV 0] 153)
  go_enter Try.func107, Try.ntmps107
  have zn := M2.out.box (.tail _ (.tail _ (.head _)))
  go_upto_region 10 with fail
  go_quiet (fail)
  go_wp2
  go_ret2
  exact ⟨_, by first | rfl | simp [*] | (simp only [*]; rfl), Kd.R_nil _ _ _ _ _, by repeat (first | exact Below.refl _ _ | apply below_alloc | apply below_drew1 | apply pw_below_drewN)⟩
set_option maxHeartbeats 8000000 in
set_option maxRecDepth 100000 in
theorem wants_3_1 (n : Node) (cs : List Value) (w : World) (hk : kNodeI.K w n cs) (hkind : n.kind = 3) (h0 : (n.a == 0) = true) (h1 : (n.b == 0) = false) :
    Calls Try.prog 107 #[.agg ⟨cs⟩] w fun e w' => ∃ v, e = .returned (.tuple #[v, .bool false]) ∧ kWant.R 153 w' w.heap.size (fun _ => True) v [] ∧ Below w.heap.size w w' := by
  obtain ⟨A4, c4, A5, c5, rfl, h4, g4, h5, g5⟩ := kNodeI_open hk
  clear hk g4 g5 h4 h5
  have q1 : (n.kind == 1) = false := by simp [hkind]
  have q2 : (n.kind == 2) = false := by simp [hkind]
  have q3 : (n.kind == 3) = true := by simp [hkind]
  clear hkind
  have hd0 : decide (n.a = 0) = true := by simpa using h0
  have hd1 : decide (n.b = 0) = false := by simpa using h1
  have hn1 : ¬ n.b = 0 := by simpa using h1
  have M2 := Aside0.mk ((((Mem.start w).allocAt rfl #[.int .i64 n.kind, .int .i64 n.a, .int .i64 n.b, .int .i64 n.c, .slice A4 n.list.length c4, .slice A5 n.names.length c5, .int .u64 n.num, .int .i64 n.at_] 142).allocAt (g := w.heap.size + 1) (by simp) #[.int .i64 n.a, fnV 0] 153).allocAt (g := w.heap.size + 1 + 1) (by simp) #[.int .i64 n.b, fnV 0] 153)
  go_enter Try.func107, Try.ntmps107
  have zn := M2.out.box (.tail _ (.tail _ (.head _)))
  go_upto_region 10 with fail
  go_quiet (fail)
  go_wp2
  go_ret2
  exact ⟨_, by first | rfl | simp [*] | (simp only [*]; rfl), Kd.R_nil _ _ _ _ _, by repeat (first | exact Below.refl _ _ | apply below_alloc | apply below_drew1 | apply pw_below_drewN)⟩
set_option maxHeartbeats 8000000 in
set_option maxRecDepth 100000 in
theorem wants_3_2 (n : Node) (cs : List Value) (w : World) (hk : kNodeI.K w n cs) (hkind : n.kind = 3) (h0 : (n.a == 0) = true) (h1 : (n.b == 0) = true) (h2 : (n.c == 0) = false) :
    Calls Try.prog 107 #[.agg ⟨cs⟩] w fun e w' => ∃ v, e = .returned (.tuple #[v, .bool false]) ∧ kWant.R 153 w' w.heap.size (fun _ => True) v [] ∧ Below w.heap.size w w' := by
  obtain ⟨A4, c4, A5, c5, rfl, h4, g4, h5, g5⟩ := kNodeI_open hk
  clear hk g4 g5 h4 h5
  have q1 : (n.kind == 1) = false := by simp [hkind]
  have q2 : (n.kind == 2) = false := by simp [hkind]
  have q3 : (n.kind == 3) = true := by simp [hkind]
  clear hkind
  have hd0 : decide (n.a = 0) = true := by simpa using h0
  have hd1 : decide (n.b = 0) = true := by simpa using h1
  have hd2 : decide (n.c = 0) = false := by simpa using h2
  have hn2 : ¬ n.c = 0 := by simpa using h2
  have M2 := Aside0.mk ((((Mem.start w).allocAt rfl #[.int .i64 n.kind, .int .i64 n.a, .int .i64 n.b, .int .i64 n.c, .slice A4 n.list.length c4, .slice A5 n.names.length c5, .int .u64 n.num, .int .i64 n.at_] 142).allocAt (g := w.heap.size + 1) (by simp) #[.int .i64 n.a, fnV 0] 153).allocAt (g := w.heap.size + 1 + 1) (by simp) #[.int .i64 n.b, fnV 0] 153)
  go_enter Try.func107, Try.ntmps107
  have zn := M2.out.box (.tail _ (.tail _ (.head _)))
  go_upto_region 10 with fail
  go_quiet (fail)
  go_wp2
  go_ret2
  exact ⟨_, by first | rfl | simp [*] | (simp only [*]; rfl), Kd.R_nil _ _ _ _ _, by repeat (first | exact Below.refl _ _ | apply below_alloc | apply below_drew1 | apply pw_below_drewN)⟩
set_option maxHeartbeats 8000000 in
set_option maxRecDepth 100000 in
theorem wants_3_3 (n : Node) (cs : List Value) (w : World) (hk : kNodeI.K w n cs) (hkind : n.kind = 3) (h0 : (n.a == 0) = true) (h1 : (n.b == 0) = true) (h2 : (n.c == 0) = true) :
    Calls Try.prog 107 #[.agg ⟨cs⟩] w fun e w' => ∃ v, e = .returned (.tuple #[v, .bool true]) ∧ kWant.R 153 w' w.heap.size (fun _ => True) v [] ∧ Below w.heap.size w w' := by
  obtain ⟨A4, c4, A5, c5, rfl, h4, g4, h5, g5⟩ := kNodeI_open hk
  clear hk g4 g5 h4 h5
  have q1 : (n.kind == 1) = false := by simp [hkind]
  have q2 : (n.kind == 2) = false := by simp [hkind]
  have q3 : (n.kind == 3) = true := by simp [hkind]
  clear hkind
  have hd0 : decide (n.a = 0) = true := by simpa using h0
  have hd1 : decide (n.b = 0) = true := by simpa using h1
  have hd2 : decide (n.c = 0) = true := by simpa using h2
  have M2 := Aside0.mk ((((Mem.start w).allocAt rfl #[.int .i64 n.kind, .int .i64 n.a, .int .i64 n.b, .int .i64 n.c, .slice A4 n.list.length c4, .slice A5 n.names.length c5, .int .u64 n.num, .int .i64 n.at_] 142).allocAt (g := w.heap.size + 1) (by simp) #[.int .i64 n.a, fnV 0] 153).allocAt (g := w.heap.size + 1 + 1) (by simp) #[.int .i64 n.b, fnV 0] 153)
  go_enter Try.func107, Try.ntmps107
  have zn := M2.out.box (.tail _ (.tail _ (.head _)))
  go_upto_region 10 with fail
  go_quiet (fail)
  go_wp2
  go_ret2
  exact ⟨_, by first | rfl | simp [*] | (simp only [*]; rfl), Kd.R_nil _ _ _ _ _, by repeat (first | exact Below.refl _ _ | apply below_alloc | apply below_drew1 | apply pw_below_drewN)⟩
set_option maxHeartbeats 8000000 in
set_option maxRecDepth 100000 in
theorem wants_4_0 (n : Node) (cs : List Value) (w : World) (hk : kNodeI.K w n cs) (hkind : n.kind = 4) (h0 : (n.a == 0) = false) :
    Calls Try.prog 107 #[.agg ⟨cs⟩] w fun e w' => ∃ v, e = .returned (.tuple #[v, .bool false]) ∧ kWant.R 153 w' w.heap.size (fun _ => True) v [] ∧ Below w.heap.size w w' := by
  obtain ⟨A4, c4, A5, c5, rfl, h4, g4, h5, g5⟩ := kNodeI_open hk
  clear hk g4 g5 h4 h5
  have q1 : (n.kind == 1) = false := by simp [hkind]
  have q2 : (n.kind == 2) = false := by simp [hkind]
  have q3 : (n.kind == 3) = false := by simp [hkind]
  have q4 : (n.kind == 4) = true := by simp [hkind]
  clear hkind
  have hd0 : decide (n.a = 0) = false := by simpa using h0
  have hn0 : ¬ n.a = 0 := by simpa using h0
  have M2 := Aside0.mk ((((Mem.start w).allocAt rfl #[.int .i64 n.kind, .int .i64 n.a, .int .i64 n.b, .int .i64 n.c, .slice A4 n.list.length c4, .slice A5 n.names.length c5, .int .u64 n.num, .int .i64 n.at_] 142).allocAt (g := w.heap.size + 1) (by simp) #[.int .i64 n.a, fnV 0] 153).allocAt (g := w.heap.size + 1 + 1) (by simp) #[.int .i64 n.b, fnV 0] 153)
  go_enter Try.func107, Try.ntmps107
  have zn := M2.out.box (.tail _ (.tail _ (.head _)))
  go_upto_region 10 with fail
  go_quiet (fail)
  go_wp2
  go_ret2
  exact ⟨_, by first | rfl | simp [*] | (simp only [*]; rfl), Kd.R_nil _ _ _ _ _, by repeat (first | exact Below.refl _ _ | apply below_alloc | apply below_drew1 | apply pw_below_drewN)⟩
set_option maxHeartbeats 8000000 in
set_option maxRecDepth 100000 in
theorem wants_4_1 (n : Node) (cs : List Value) (w : World) (hk : kNodeI.K w n cs) (hkind : n.kind = 4) (h0 : (n.a == 0) = true) (h1 : (n.b == 0) = false) :
    Calls Try.prog 107 #[.agg ⟨cs⟩] w fun e w' => ∃ v, e = .returned (.tuple #[v, .bool false]) ∧ kWant.R 153 w' w.heap.size (fun _ => True) v [] ∧ Below w.heap.size w w' := by
  obtain ⟨A4, c4, A5, c5, rfl, h4, g4, h5, g5⟩ := kNodeI_open hk
  clear hk g4 g5 h4 h5
  have q1 : (n.kind == 1) = false := by simp [hkind]
  have q2 : (n.kind == 2) = false := by simp [hkind]
  have q3 : (n.kind == 3) = false := by simp [hkind]
  have q4 : (n.kind == 4) = true := by simp [hkind]
  clear hkind
  have hd0 : decide (n.a = 0) = true := by simpa using h0
  have hd1 : decide (n.b = 0) = false := by simpa using h1
  have hn1 : ¬ n.b = 0 := by simpa using h1
  have M2 := Aside0.mk ((((Mem.start w).allocAt rfl #[.int .i64 n.kind, .int .i64 n.a, .int .i64 n.b, .int .i64 n.c, .slice A4 n.list.length c4, .slice A5 n.names.length c5, .int .u64 n.num, .int .i64 n.at_] 142).allocAt (g := w.heap.size + 1) (by simp) #[.int .i64 n.a, fnV 0] 153).allocAt (g := w.heap.size + 1 + 1) (by simp) #[.int .i64 n.b, fnV 0] 153)
  go_enter Try.func107, Try.ntmps107
  have zn := M2.out.box (.tail _ (.tail _ (.head _)))
  go_upto_region 10 with fail
  go_quiet (fail)
  go_wp2
  go_ret2
  exact ⟨_, by first | rfl | simp [*] | (simp only [*]; rfl), Kd.R_nil _ _ _ _ _, by repeat (first | exact Below.refl _ _ | apply below_alloc | apply below_drew1 | apply pw_below_drewN)⟩
set_option maxHeartbeats 8000000 in
set_option maxRecDepth 100000 in
theorem wants_4_2 (n : Node) (cs : List Value) (w : World) (hk : kNodeI.K w n cs) (hkind : n.kind = 4) (h0 : (n.a == 0) = true) (h1 : (n.b == 0) = true) (h2 : (n.c == 0) = false) :
    Calls Try.prog 107 #[.agg ⟨cs⟩] w fun e w' => ∃ v, e = .returned (.tuple #[v, .bool false]) ∧ kWant.R 153 w' w.heap.size (fun _ => True) v [] ∧ Below w.heap.size w w' := by
  obtain ⟨A4, c4, A5, c5, rfl, h4, g4, h5, g5⟩ := kNodeI_open hk
  clear hk g4 g5 h4 h5
  have q1 : (n.kind == 1) = false := by simp [hkind]
  have q2 : (n.kind == 2) = false := by simp [hkind]
  have q3 : (n.kind == 3) = false := by simp [hkind]
  have q4 : (n.kind == 4) = true := by simp [hkind]
  clear hkind
  have hd0 : decide (n.a = 0) = true := by simpa using h0
  have hd1 : decide (n.b = 0) = true := by simpa using h1
  have hd2 : decide (n.c = 0) = false := by simpa using h2
  have hn2 : ¬ n.c = 0 := by simpa using h2
  have M2 := Aside0.mk ((((Mem.start w).allocAt rfl #[.int .i64 n.kind, .int .i64 n.a, .int .i64 n.b, .int .i64 n.c, .slice A4 n.list.length c4, .slice A5 n.names.length c5, .int .u64 n.num, .int .i64 n.at_] 142).allocAt (g := w.heap.size + 1) (by simp) #[.int .i64 n.a, fnV 0] 153).allocAt (g := w.heap.size + 1 + 1) (by simp) #[.int .i64 n.b, fnV 0] 153)
  go_enter Try.func107, Try.ntmps107
  have zn := M2.out.box (.tail _ (.tail _ (.head _)))
  go_upto_region 10 with fail
  go_quiet (fail)
  go_wp2
  go_ret2
  exact ⟨_, by first | rfl | simp [*] | (simp only [*]; rfl), Kd.R_nil _ _ _ _ _, by repeat (first | exact Below.refl _ _ | apply below_alloc | apply below_drew1 | apply pw_below_drewN)⟩
set_option maxHeartbeats 8000000 in
set_option maxRecDepth 100000 in
theorem wants_4_3 (n : Node) (cs : List Value) (w : World) (hk : kNodeI.K w n cs) (hkind : n.kind = 4) (h0 : (n.a == 0) = true) (h1 : (n.b == 0) = true) (h2 : (n.c == 0) = true) :
    Calls Try.prog 107 #[.agg ⟨cs⟩] w fun e w' => ∃ v, e = .returned (.tuple #[v, .bool true]) ∧ kWant.R 153 w' w.heap.size (fun _ => True) v [] ∧ Below w.heap.size w w' := by
  obtain ⟨A4, c4, A5, c5, rfl, h4, g4, h5, g5⟩ := kNodeI_open hk
  clear hk g4 g5 h4 h5
  have q1 : (n.kind == 1) = false := by simp [hkind]
  have q2 : (n.kind == 2) = false := by simp [hkind]
  have q3 : (n.kind == 3) = false := by simp [hkind]
  have q4 : (n.kind == 4) = true := by simp [hkind]
  clear hkind
  have hd0 : decide (n.a = 0) = true := by simpa using h0
  have hd1 : decide (n.b = 0) = true := by simpa using h1
  have hd2 : decide (n.c = 0) = true := by simpa using h2
  have M2 := Aside0.mk ((((Mem.start w).allocAt rfl #[.int .i64 n.kind, .int .i64 n.a, .int .i64 n.b, .int .i64 n.c, .slice A4 n.list.length c4, .slice A5 n.names.length c5, .int .u64 n.num, .int .i64 n.at_] 142).allocAt (g := w.heap.size + 1) (by simp) #[.int .i64 n.a, fnV 0] 153).allocAt (g := w.heap.size + 1 + 1) (by simp) #[.int .i64 n.b, fnV 0] 153)
  go_enter Try.func107, Try.ntmps107
  have zn := M2.out.box (.tail _ (.tail _ (.head _)))
  go_upto_region 10 with fail
  go_quiet (fail)
  go_wp2
  go_ret2
  exact ⟨_, by first | rfl | simp [*] | (simp only [*]; rfl), Kd.R_nil _ _ _ _ _, by repeat (first | exact Below.refl _ _ | apply below_alloc | apply below_drew1 | apply pw_below_drewN)⟩
set_option maxHeartbeats 8000000 in
set_option maxRecDepth 100000 in
theorem wants_5_0 (n : Node) (cs : List Value) (w : World) (hk : kNodeI.K w n cs) (hkind : n.kind = 5) (h0 : (n.a == 0) = false) :
    Calls Try.prog 107 #[.agg ⟨cs⟩] w fun e w' => ∃ v, e = .returned (.tuple #[v, .bool false]) ∧ kWant.R 153 w' w.heap.size (fun _ => True) v [] ∧ Below w.heap.size w w' := by
  obtain ⟨A4, c4, A5, c5, rfl, h4, g4, h5, g5⟩ := kNodeI_open hk
  clear hk g4 g5 h4 h5
  have q1 : (n.kind == 1) = false := by simp [hkind]
  have q2 : (n.kind == 2) = false := by simp [hkind]
  have q3 : (n.kind == 3) = false := by simp [hkind]
  have q4 : (n.kind == 4) = false := by simp [hkind]
  have q5 : (n.kind == 5) = true := by simp [hkind]
  clear hkind
  have hd0 : decide (n.a = 0) = false := by simpa using h0
  have hn0 : ¬ n.a = 0 := by simpa using h0
  have M2 := Aside0.mk ((((Mem.start w).allocAt rfl #[.int .i64 n.kind, .int .i64 n.a, .int .i64 n.b, .int .i64 n.c, .slice A4 n.list.length c4, .slice A5 n.names.length c5, .int .u64 n.num, .int .i64 n.at_] 142).allocAt (g := w.heap.size + 1) (by simp) #[.int .i64 n.a, fnV 0] 153).allocAt (g := w.heap.size + 1 + 1) (by simp) #[.int .i64 n.b, fnV 0] 153)
  go_enter Try.func107, Try.ntmps107
  have zn := M2.out.box (.tail _ (.tail _ (.head _)))
  go_upto_region 10 with fail
  go_quiet (fail)
  go_wp2
  go_ret2
  exact ⟨_, by first | rfl | simp [*] | (simp only [*]; rfl), Kd.R_nil _ _ _ _ _, by repeat (first | exact Below.refl _ _ | apply below_alloc | apply below_drew1 | apply pw_below_drewN)⟩
set_option maxHeartbeats 8000000 in
set_option maxRecDepth 100000 in
theorem wants_5_1 (n : Node) (cs : List Value) (w : World) (hk : kNodeI.K w n cs) (hkind : n.kind = 5) (h0 : (n.a == 0) = true) (h1 : (n.b == 0) = false) :
    Calls Try.prog 107 #[.agg ⟨cs⟩] w fun e w' => ∃ v, e = .returned (.tuple #[v, .bool false]) ∧ kWant.R 153 w' w.heap.size (fun _ => True) v [] ∧ Below w.heap.size w w' := by
  obtain ⟨A4, c4, A5, c5, rfl, h4, g4, h5, g5⟩ := kNodeI_open hk
  clear hk g4 g5 h4 h5
  have q1 : (n.kind == 1) = false := by simp [hkind]
  have q2 : (n.kind == 2) = false := by simp [hkind]
  have q3 : (n.kind == 3) = false := by simp [hkind]
  have q4 : (n.kind == 4) = false := by simp [hkind]
  have q5 : (n.kind == 5) = true := by simp [hkind]
  clear hkind
  have hd0 : decide (n.a = 0) = true := by simpa using h0
  have hd1 : decide (n.b = 0) = false := by simpa using h1
  have hn1 : ¬ n.b = 0 := by simpa using h1
  have M2 := Aside0.mk ((((Mem.start w).allocAt rfl #[.int .i64 n.kind, .int .i64 n.a, .int .i64 n.b, .int .i64 n.c, .slice A4 n.list.length c4, .slice A5 n.names.length c5, .int .u64 n.num, .int .i64 n.at_] 142).allocAt (g := w.heap.size + 1) (by simp) #[.int .i64 n.a, fnV 0] 153).allocAt (g := w.heap.size + 1 + 1) (by simp) #[.int .i64 n.b, fnV 0] 153)
  go_enter Try.func107, Try.ntmps107
  have zn := M2.out.box (.tail _ (.tail _ (.head _)))
  go_upto_region 10 with fail
  go_quiet (fail)
  go_wp2
  go_ret2
  exact ⟨_, by first | rfl | simp [*] | (simp only [*]; rfl), Kd.R_nil _ _ _ _ _, by repeat (first | exact Below.refl _ _ | apply below_alloc | apply below_drew1 | apply pw_below_drewN)⟩
set_option maxHeartbeats 8000000 in
set_option maxRecDepth 100000 in
theorem wants_5_2 (n : Node) (cs : List Value) (w : World) (hk : kNodeI.K w n cs) (hkind : n.kind = 5) (h0 : (n.a == 0) = true) (h1 : (n.b == 0) = true) (h2 : (n.c == 0) = false) :
    Calls Try.prog 107 #[.agg ⟨cs⟩] w fun e w' => ∃ v, e = .returned (.tuple #[v, .bool false]) ∧ kWant.R 153 w' w.heap.size (fun _ => True) v [] ∧ Below w.heap.size w w' := by
  obtain ⟨A4, c4, A5, c5, rfl, h4, g4, h5, g5⟩ := kNodeI_open hk
  clear hk g4 g5 h4 h5
  have q1 : (n.kind == 1) = false := by simp [hkind]
  have q2 : (n.kind == 2) = false := by simp [hkind]
  have q3 : (n.kind == 3) = false := by simp [hkind]
  have q4 : (n.kind == 4) = false := by simp [hkind]
  have q5 : (n.kind == 5) = true := by simp [hkind]
  clear hkind
  have hd0 : decide (n.a = 0) = true := by simpa using h0
  have hd1 : decide (n.b = 0) = true := by simpa using h1
  have hd2 : decide (n.c = 0) = false := by simpa using h2
  have hn2 : ¬ n.c = 0 := by simpa using h2
  have M2 := Aside0.mk ((((Mem.start w).allocAt rfl #[.int .i64 n.kind, .int .i64 n.a, .int .i64 n.b, .int .i64 n.c, .slice A4 n.list.length c4, .slice A5 n.names.length c5, .int .u64 n.num, .int .i64 n.at_] 142).allocAt (g := w.heap.size + 1) (by simp) #[.int .i64 n.a, fnV 0] 153).allocAt (g := w.heap.size + 1 + 1) (by simp) #[.int .i64 n.b, fnV 0] 153)
  go_enter Try.func107, Try.ntmps107
  have zn := M2.out.box (.tail _ (.tail _ (.head _)))
  go_upto_region 10 with fail
  go_quiet (fail)
  go_wp2
  go_ret2
  exact ⟨_, by first | rfl | simp [*] | (simp only [*]; rfl), Kd.R_nil _ _ _ _ _, by repeat (first | exact Below.refl _ _ | apply below_alloc | apply below_drew1 | apply pw_below_drewN)⟩
set_option maxHeartbeats 8000000 in
set_option maxRecDepth 100000 in
theorem wants_5_3 (n : Node) (cs : List Value) (w : World) (hk : kNodeI.K w n cs) (hkind : n.kind = 5) (h0 : (n.a == 0) = true) (h1 : (n.b == 0) = true) (h2 : (n.c == 0) = true) :
    Calls Try.prog 107 #[.agg ⟨cs⟩] w fun e w' => ∃ v, e = .returned (.tuple #[v, .bool true]) ∧ kWant.R 153 w' w.heap.size (fun _ => True) v [] ∧ Below w.heap.size w w' := by
  obtain ⟨A4, c4, A5, c5, rfl, h4, g4, h5, g5⟩ := kNodeI_open hk
  clear hk g4 g5 h4 h5
  have q1 : (n.kind == 1) = false := by simp [hkind]
  have q2 : (n.kind == 2) = false := by simp [hkind]
  have q3 : (n.kind == 3) = false := by simp [hkind]
  have q4 : (n.kind == 4) = false := by simp [hkind]
  have q5 : (n.kind == 5) = true := by simp [hkind]
  clear hkind
  have hd0 : decide (n.a = 0) = true := by simpa using h0
  have hd1 : decide (n.b = 0) = true := by simpa using h1
  have hd2 : decide (n.c = 0) = true := by simpa using h2
  have M2 := Aside0.mk ((((Mem.start w).allocAt rfl #[.int .i64 n.kind, .int .i64 n.a, .int .i64 n.b, .int .i64 n.c, .slice A4 n.list.length c4, .slice A5 n.names.length c5, .int .u64 n.num, .int .i64 n.at_] 142).allocAt (g := w.heap.size + 1) (by simp) #[.int .i64 n.a, fnV 0] 153).allocAt (g := w.heap.size + 1 + 1) (by simp) #[.int .i64 n.b, fnV 0] 153)
  go_enter Try.func107, Try.ntmps107
  have zn := M2.out.box (.tail _ (.tail _ (.head _)))
  go_upto_region 10 with fail
  go_quiet (fail)
  go_wp2
  go_ret2
  exact ⟨_, by first | rfl | simp [*] | (simp only [*]; rfl), Kd.R_nil _ _ _ _ _, by repeat (first | exact Below.refl _ _ | apply below_alloc | apply below_drew1 | apply pw_below_drewN)⟩
set_option maxHeartbeats 8000000 in
set_option maxRecDepth 100000 in
theorem wants_6_0 (n : Node) (cs : List Value) (w : World) (hk : kNodeI.K w n cs) (hkind : n.kind = 6) (h0 : (n.a == 0) = false) :
    Calls Try.prog 107 #[.agg ⟨cs⟩] w fun e w' => ∃ v, e = .returned (.tuple #[v, .bool false]) ∧ kWant.R 153 w' w.heap.size (fun _ => True) v [] ∧ Below w.heap.size w w' := by
  obtain ⟨A4, c4, A5, c5, rfl, h4, g4, h5, g5⟩ := kNodeI_open hk
  clear hk g4 g5 h4 h5
  have q1 : (n.kind == 1) = false := by simp [hkind]
  have q2 : (n.kind == 2) = false := by simp [hkind]
  have q3 : (n.kind == 3) = false := by simp [hkind]
  have q4 : (n.kind == 4) = false := by simp [hkind]
  have q5 : (n.kind == 5) = false := by simp [hkind]
  have q6 : (n.kind == 6) = true := by simp [hkind]
  clear hkind
  have hd0 : decide (n.a = 0) = false := by simpa using h0
  have hn0 : ¬ n.a = 0 := by simpa using h0
  have M2 := Aside0.mk ((((Mem.start w).allocAt rfl #[.int .i64 n.kind, .int .i64 n.a, .int .i64 n.b, .int .i64 n.c, .slice A4 n.list.length c4, .slice A5 n.names.length c5, .int .u64 n.num, .int .i64 n.at_] 142).allocAt (g := w.heap.size + 1) (by simp) #[.int .i64 n.a, fnV 0] 153).allocAt (g := w.heap.size + 1 + 1) (by simp) #[.int .i64 n.b, fnV 0] 153)
  go_enter Try.func107, Try.ntmps107
  have zn := M2.out.box (.tail _ (.tail _ (.head _)))
  go_upto_region 10 with fail
  go_quiet (fail)
  go_wp2
  go_ret2
  exact ⟨_, by first | rfl | simp [*] | (simp only [*]; rfl), Kd.R_nil _ _ _ _ _, by repeat (first | exact Below.refl _ _ | apply below_alloc | apply below_drew1 | apply pw_below_drewN)⟩
set_option maxHeartbeats 8000000 in
set_option maxRecDepth 100000 in
theorem wants_6_1 (n : Node) (cs : List Value) (w : World) (hk : kNodeI.K w n cs) (hkind : n.kind = 6) (h0 : (n.a == 0) = true) (h1 : (n.b == 0) = false) :
    Calls Try.prog 107 #[.agg ⟨cs⟩] w fun e w' => ∃ v, e = .returned (.tuple #[v, .bool false]) ∧ kWant.R 153 w' w.heap.size (fun _ => True) v [] ∧ Below w.heap.size w w' := by
  obtain ⟨A4, c4, A5, c5, rfl, h4, g4, h5, g5⟩ := kNodeI_open hk
  clear hk g4 g5 h4 h5
  have q1 : (n.kind == 1) = false := by simp [hkind]
  have q2 : (n.kind == 2) = false := by simp [hkind]
  have q3 : (n.kind == 3) = false := by simp [hkind]
  have q4 : (n.kind == 4) = false := by simp [hkind]
  have q5 : (n.kind == 5) = false := by simp [hkind]
  have q6 : (n.kind == 6) = true := by simp [hkind]
  clear hkind
  have hd0 : decide (n.a = 0) = true := by simpa using h0
  have hd1 : decide (n.b = 0) = false := by simpa using h1
  have hn1 : ¬ n.b = 0 := by simpa using h1
  have M2 := Aside0.mk ((((Mem.start w).allocAt rfl #[.int .i64 n.kind, .int .i64 n.a, .int .i64 n.b, .int .i64 n.c, .slice A4 n.list.length c4, .slice A5 n.names.length c5, .int .u64 n.num, .int .i64 n.at_] 142).allocAt (g := w.heap.size + 1) (by simp) #[.int .i64 n.a, fnV 0] 153).allocAt (g := w.heap.size + 1 + 1) (by simp) #[.int .i64 n.b, fnV 0] 153)
  go_enter Try.func107, Try.ntmps107
  have zn := M2.out.box (.tail _ (.tail _ (.head _)))
  go_upto_region 10 with fail
  go_quiet (fail)
  go_wp2
  go_ret2
  exact ⟨_, by first | rfl | simp [*] | (simp only [*]; rfl), Kd.R_nil _ _ _ _ _, by repeat (first | exact Below.refl _ _ | apply below_alloc | apply below_drew1 | apply pw_below_drewN)⟩
set_option maxHeartbeats 8000000 in
set_option maxRecDepth 100000 in
theorem wants_6_2 (n : Node) (cs : List Value) (w : World) (hk : kNodeI.K w n cs) (hkind : n.kind = 6) (h0 : (n.a == 0) = true) (h1 : (n.b == 0) = true) (h2 : (n.c == 0) = false) :
    Calls Try.prog 107 #[.agg ⟨cs⟩] w fun e w' => ∃ v, e = .returned (.tuple #[v, .bool false]) ∧ kWant.R 153 w' w.heap.size (fun _ => True) v [] ∧ Below w.heap.size w w' := by
  obtain ⟨A4, c4, A5, c5, rfl, h4, g4, h5, g5⟩ := kNodeI_open hk
  clear hk g4 g5 h4 h5
  have q1 : (n.kind == 1) = false := by simp [hkind]
  have q2 : (n.kind == 2) = false := by simp [hkind]
  have q3 : (n.kind == 3) = false := by simp [hkind]
  have q4 : (n.kind == 4) = false := by simp [hkind]
  have q5 : (n.kind == 5) = false := by simp [hkind]
  have q6 : (n.kind == 6) = true := by simp [hkind]
  clear hkind
  have hd0 : decide (n.a = 0) = true := by simpa using h0
  have hd1 : decide (n.b = 0) = true := by simpa using h1
  have hd2 : decide (n.c = 0) = false := by simpa using h2
  have hn2 : ¬ n.c = 0 := by simpa using h2
  have M2 := Aside0.mk ((((Mem.start w).allocAt rfl #[.int .i64 n.kind, .int .i64 n.a, .int .i64 n.b, .int .i64 n.c, .slice A4 n.list.length c4, .slice A5 n.names.length c5, .int .u64 n.num, .int .i64 n.at_] 142).allocAt (g := w.heap.size + 1) (by simp) #[.int .i64 n.a, fnV 0] 153).allocAt (g := w.heap.size + 1 + 1) (by simp) #[.int .i64 n.b, fnV 0] 153)
  go_enter Try.func107, Try.ntmps107
  have zn := M2.out.box (.tail _ (.tail _ (.head _)))
  go_upto_region 10 with fail
  go_quiet (fail)
  go_wp2
  go_ret2
  exact ⟨_, by first | rfl | simp [*] | (simp only [*]; rfl), Kd.R_nil _ _ _ _ _, by repeat (first | exact Below.refl _ _ | apply below_alloc | apply below_drew1 | apply pw_below_drewN)⟩
set_option maxHeartbeats 8000000 in
set_option maxRecDepth 100000 in
theorem wants_6_3 (n : Node) (cs : List Value) (w : World) (hk : kNodeI.K w n cs) (hkind : n.kind = 6) (h0 : (n.a == 0) = true) (h1 : (n.b == 0) = true) (h2 : (n.c == 0) = true) :
    Calls Try.prog 107 #[.agg ⟨cs⟩] w fun e w' => ∃ v, e = .returned (.tuple #[v, .bool true]) ∧ kWant.R 153 w' w.heap.size (fun _ => True) v [] ∧ Below w.heap.size w w' := by
  obtain ⟨A4, c4, A5, c5, rfl, h4, g4, h5, g5⟩ := kNodeI_open hk
  clear hk g4 g5 h4 h5
  have q1 : (n.kind == 1) = false := by simp [hkind]
  have q2 : (n.kind == 2) = false := by simp [hkind]
  have q3 : (n.kind == 3) = false := by simp [hkind]
  have q4 : (n.kind == 4) = false := by simp [hkind]
  have q5 : (n.kind == 5) = false := by simp [hkind]
  have q6 : (n.kind == 6) = true := by simp [hkind]
  clear hkind
  have hd0 : decide (n.a = 0) = true := by simpa using h0
  have hd1 : decide (n.b = 0) = true := by simpa using h1
  have hd2 : decide (n.c = 0) = true := by simpa using h2
  have M2 := Aside0.mk ((((Mem.start w).allocAt rfl #[.int .i64 n.kind, .int .i64 n.a, .int .i64 n.b, .int .i64 n.c, .slice A4 n.list.length c4, .slice A5 n.names.length c5, .int .u64 n.num, .int .i64 n.at_] 142).allocAt (g := w.heap.size + 1) (by simp) #[.int .i64 n.a, fnV 0] 153).allocAt (g := w.heap.size + 1 + 1) (by simp) #[.int .i64 n.b, fnV 0] 153)
  go_enter Try.func107, Try.ntmps107
  have zn := M2.out.box (.tail _ (.tail _ (.head _)))
  go_upto_region 10 with fail
  go_quiet (fail)
  go_wp2
  go_ret2
  exact ⟨_, by first | rfl | simp [*] | (simp only [*]; rfl), Kd.R_nil _ _ _ _ _, by repeat (first | exact Below.refl _ _ | apply below_alloc | apply below_drew1 | apply pw_below_drewN)⟩
set_option maxHeartbeats 8000000 in
set_option maxRecDepth 100000 in
theorem wants_29_0 (n : Node) (cs : List Value) (w : World) (hk : kNodeI.K w n cs) (hkind : n.kind = 29) (h0 : (n.a == 0) = false) :
    Calls Try.prog 107 #[.agg ⟨cs⟩] w fun e w' => ∃ v, e = .returned (.tuple #[v, .bool false]) ∧ kWant.R 153 w' w.heap.size (fun _ => True) v [] ∧ Below w.heap.size w w' := by
  obtain ⟨A4, c4, A5, c5, rfl, h4, g4, h5, g5⟩ := kNodeI_open hk
  clear hk g4 g5 h4 h5
  have q1 : (n.kind == 1) = false := by simp [hkind]
  have q2 : (n.kind == 2) = false := by simp [hkind]
  have q3 : (n.kind == 3) = false := by simp [hkind]
  have q4 : (n.kind == 4) = false := by simp [hkind]
  have q5 : (n.kind == 5) = false := by simp [hkind]
  have q6 : (n.kind == 6) = false := by simp [hkind]
  have q7 : (n.kind == 7) = false := by simp [hkind]
  have q8 : (n.kind == 8) = false := by simp [hkind]
  have q21 : (n.kind == 21) = false := by simp [hkind]
  have q22 : (n.kind == 22) = false := by simp [hkind]
  have q25 : (n.kind == 25) = false := by simp [hkind]
  have q26 : (n.kind == 26) = false := by simp [hkind]
  have q28 : (n.kind == 28) = false := by simp [hkind]
  have q20 : (n.kind == 20) = false := by simp [hkind]
  have q9 : (n.kind == 9) = false := by simp [hkind]
  have q10 : (n.kind == 10) = false := by simp [hkind]
  have q11 : (n.kind == 11) = false := by simp [hkind]
  have q13 : (n.kind == 13) = false := by simp [hkind]
  have q24 : (n.kind == 24) = false := by simp [hkind]
  have q27 : (n.kind == 27) = false := by simp [hkind]
  have q23 : (n.kind == 23) = false := by simp [hkind]
  have q12 : (n.kind == 12) = false := by simp [hkind]
  have q29 : (n.kind == 29) = true := by simp [hkind]
  clear hkind
  have hd0 : decide (n.a = 0) = false := by simpa using h0
  have hn0 : ¬ n.a = 0 := by simpa using h0
  have M2 := Aside0.mk ((((Mem.start w).allocAt rfl #[.int .i64 n.kind, .int .i64 n.a, .int .i64 n.b, .int .i64 n.c, .slice A4 n.list.length c4, .slice A5 n.names.length c5, .int .u64 n.num, .int .i64 n.at_] 142).allocAt (g := w.heap.size + 1) (by simp) #[.int .i64 n.a, fnV 0] 153).allocAt (g := w.heap.size + 1 + 1) (by simp) #[.int .i64 n.b, fnV 0] 153)
  go_enter Try.func107, Try.ntmps107
  have zn := M2.out.box (.tail _ (.tail _ (.head _)))
  go_upto_region 39 with fail
  go_quiet (fail)
  go_wp2
  go_ret2
  exact ⟨_, by first | rfl | simp [*] | (simp only [*]; rfl), Kd.R_nil _ _ _ _ _, by repeat (first | exact Below.refl _ _ | apply below_alloc | apply below_drew1 | apply pw_below_drewN)⟩
set_option maxHeartbeats 8000000 in
set_option maxRecDepth 100000 in
theorem wants_29_1 (n : Node) (cs : List Value) (w : World) (hk : kNodeI.K w n cs) (hkind : n.kind = 29) (h0 : (n.a == 0) = true) (h1 : (n.b == 0) = false) :
    Calls Try.prog 107 #[.agg ⟨cs⟩] w fun e w' => ∃ v, e = .returned (.tuple #[v, .bool false]) ∧ kWant.R 153 w' w.heap.size (fun _ => True) v [] ∧ Below w.heap.size w w' := by
  obtain ⟨A4, c4, A5, c5, rfl, h4, g4, h5, g5⟩ := kNodeI_open hk
  clear hk g4 g5 h4 h5
  have q1 : (n.kind == 1) = false := by simp [hkind]
  have q2 : (n.kind == 2) = false := by simp [hkind]
  have q3 : (n.kind == 3) = false := by simp [hkind]
  have q4 : (n.kind == 4) = false := by simp [hkind]
  have q5 : (n.kind == 5) = false := by simp [hkind]
  have q6 : (n.kind == 6) = false := by simp [hkind]
  have q7 : (n.kind == 7) = false := by simp [hkind]
  have q8 : (n.kind == 8) = false := by simp [hkind]
  have q21 : (n.kind == 21) = false := by simp [hkind]
  have q22 : (n.kind == 22) = false := by simp [hkind]
  have q25 : (n.kind == 25) = false := by simp [hkind]
  have q26 : (n.kind == 26) = false := by simp [hkind]
  have q28 : (n.kind == 28) = false := by simp [hkind]
  have q20 : (n.kind == 20) = false := by simp [hkind]
  have q9 : (n.kind == 9) = false := by simp [hkind]
  have q10 : (n.kind == 10) = false := by simp [hkind]
  have q11 : (n.kind == 11) = false := by simp [hkind]
  have q13 : (n.kind == 13) = false := by simp [hkind]
  have q24 : (n.kind == 24) = false := by simp [hkind]
  have q27 : (n.kind == 27) = false := by simp [hkind]
  have q23 : (n.kind == 23) = false := by simp [hkind]
  have q12 : (n.kind == 12) = false := by simp [hkind]
  have q29 : (n.kind == 29) = true := by simp [hkind]
  clear hkind
  have hd0 : decide (n.a = 0) = true := by simpa using h0
  have hd1 : decide (n.b = 0) = false := by simpa using h1
  have hn1 : ¬ n.b = 0 := by simpa using h1
  have M2 := Aside0.mk ((((Mem.start w).allocAt rfl #[.int .i64 n.kind, .int .i64 n.a, .int .i64 n.b, .int .i64 n.c, .slice A4 n.list.length c4, .slice A5 n.names.length c5, .int .u64 n.num, .int .i64 n.at_] 142).allocAt (g := w.heap.size + 1) (by simp) #[.int .i64 n.a, fnV 0] 153).allocAt (g := w.heap.size + 1 + 1) (by simp) #[.int .i64 n.b, fnV 0] 153)
  go_enter Try.func107, Try.ntmps107
  have zn := M2.out.box (.tail _ (.tail _ (.head _)))
  go_upto_region 39 with fail
  go_quiet (fail)
  go_wp2
  go_ret2
  exact ⟨_, by first | rfl | simp [*] | (simp only [*]; rfl), Kd.R_nil _ _ _ _ _, by repeat (first | exact Below.refl _ _ | apply below_alloc | apply below_drew1 | apply pw_below_drewN)⟩
set_option maxHeartbeats 8000000 in
set_option maxRecDepth 100000 in
theorem wants_29_2 (n : Node) (cs : List Value) (w : World) (hk : kNodeI.K w n cs) (hkind : n.kind = 29) (h0 : (n.a == 0) = true) (h1 : (n.b == 0) = true) (h2 : (n.c == 0) = false) :
    Calls Try.prog 107 #[.agg ⟨cs⟩] w fun e w' => ∃ v, e = .returned (.tuple #[v, .bool false]) ∧ kWant.R 153 w' w.heap.size (fun _ => True) v [] ∧ Below w.heap.size w w' := by
  obtain ⟨A4, c4, A5, c5, rfl, h4, g4, h5, g5⟩ := kNodeI_open hk
  clear hk g4 g5 h4 h5
  have q1 : (n.kind == 1) = false := by simp [hkind]
  have q2 : (n.kind == 2) = false := by simp [hkind]
  have q3 : (n.kind == 3) = false := by simp [hkind]
  have q4 : (n.kind == 4) = false := by simp [hkind]
  have q5 : (n.kind == 5) = false := by simp [hkind]
  have q6 : (n.kind == 6) = false := by simp [hkind]
  have q7 : (n.kind == 7) = false := by simp [hkind]
  have q8 : (n.kind == 8) = false := by simp [hkind]
  have q21 : (n.kind == 21) = false := by simp [hkind]
  have q22 : (n.kind == 22) = false := by simp [hkind]
  have q25 : (n.kind == 25) = false := by simp [hkind]
  have q26 : (n.kind == 26) = false := by simp [hkind]
  have q28 : (n.kind == 28) = false := by simp [hkind]
  have q20 : (n.kind == 20) = false := by simp [hkind]
  have q9 : (n.kind == 9) = false := by simp [hkind]
  have q10 : (n.kind == 10) = false := by simp [hkind]
  have q11 : (n.kind == 11) = false := by simp [hkind]
  have q13 : (n.kind == 13) = false := by simp [hkind]
  have q24 : (n.kind == 24) = false := by simp [hkind]
  have q27 : (n.kind == 27) = false := by simp [hkind]
  have q23 : (n.kind == 23) = false := by simp [hkind]
  have q12 : (n.kind == 12) = false := by simp [hkind]
  have q29 : (n.kind == 29) = true := by simp [hkind]
  clear hkind
  have hd0 : decide (n.a = 0) = true := by simpa using h0
  have hd1 : decide (n.b = 0) = true := by simpa using h1
  have hd2 : decide (n.c = 0) = false := by simpa using h2
  have hn2 : ¬ n.c = 0 := by simpa using h2
  have M2 := Aside0.mk ((((Mem.start w).allocAt rfl #[.int .i64 n.kind, .int .i64 n.a, .int .i64 n.b, .int .i64 n.c, .slice A4 n.list.length c4, .slice A5 n.names.length c5, .int .u64 n.num, .int .i64 n.at_] 142).allocAt (g := w.heap.size + 1) (by simp) #[.int .i64 n.a, fnV 0] 153).allocAt (g := w.heap.size + 1 + 1) (by simp) #[.int .i64 n.b, fnV 0] 153)
  go_enter Try.func107, Try.ntmps107
  have zn := M2.out.box (.tail _ (.tail _ (.head _)))
  go_upto_region 39 with fail
  go_quiet (fail)
  go_wp2
  go_ret2
  exact ⟨_, by first | rfl | simp [*] | (simp only [*]; rfl), Kd.R_nil _ _ _ _ _, by repeat (first | exact Below.refl _ _ | apply below_alloc | apply below_drew1 | apply pw_below_drewN)⟩
set_option maxHeartbeats 8000000 in
set_option maxRecDepth 100000 in
theorem wants_29_3 (n : Node) (cs : List Value) (w : World) (hk : kNodeI.K w n cs) (hkind : n.kind = 29) (h0 : (n.a == 0) = true) (h1 : (n.b == 0) = true) (h2 : (n.c == 0) = true) :
    Calls Try.prog 107 #[.agg ⟨cs⟩] w fun e w' => ∃ v, e = .returned (.tuple #[v, .bool true]) ∧ kWant.R 153 w' w.heap.size (fun _ => True) v [] ∧ Below w.heap.size w w' := by
  obtain ⟨A4, c4, A5, c5, rfl, h4, g4, h5, g5⟩ := kNodeI_open hk
  clear hk g4 g5 h4 h5
  have q1 : (n.kind == 1) = false := by simp [hkind]
  have q2 : (n.kind == 2) = false := by simp [hkind]
  have q3 : (n.kind == 3) = false := by simp [hkind]
  have q4 : (n.kind == 4) = false := by simp [hkind]
  have q5 : (n.kind == 5) = false := by simp [hkind]
  have q6 : (n.kind == 6) = false := by simp [hkind]
  have q7 : (n.kind == 7) = false := by simp [hkind]
  have q8 : (n.kind == 8) = false := by simp [hkind]
  have q21 : (n.kind == 21) = false := by simp [hkind]
  have q22 : (n.kind == 22) = false := by simp [hkind]
  have q25 : (n.kind == 25) = false := by simp [hkind]
  have q26 : (n.kind == 26) = false := by simp [hkind]
  have q28 : (n.kind == 28) = false := by simp [hkind]
  have q20 : (n.kind == 20) = false := by simp [hkind]
  have q9 : (n.kind == 9) = false := by simp [hkind]
  have q10 : (n.kind == 10) = false := by simp [hkind]
  have q11 : (n.kind == 11) = false := by simp [hkind]
  have q13 : (n.kind == 13) = false := by simp [hkind]
  have q24 : (n.kind == 24) = false := by simp [hkind]
  have q27 : (n.kind == 27) = false := by simp [hkind]
  have q23 : (n.kind == 23) = false := by simp [hkind]
  have q12 : (n.kind == 12) = false := by simp [hkind]
  have q29 : (n.kind == 29) = true := by simp [hkind]
  clear hkind
  have hd0 : decide (n.a = 0) = true := by simpa using h0
  have hd1 : decide (n.b = 0) = true := by simpa using h1
  have hd2 : decide (n.c = 0) = true := by simpa using h2
  have M2 := Aside0.mk ((((Mem.start w).allocAt rfl #[.int .i64 n.kind, .int .i64 n.a, .int .i64 n.b, .int .i64 n.c, .slice A4 n.list.length c4, .slice A5 n.names.length c5, .int .u64 n.num, .int .i64 n.at_] 142).allocAt (g := w.heap.size + 1) (by simp) #[.int .i64 n.a, fnV 0] 153).allocAt (g := w.heap.size + 1 + 1) (by simp) #[.int .i64 n.b, fnV 0] 153)
  go_enter Try.func107, Try.ntmps107
  have zn := M2.out.box (.tail _ (.tail _ (.head _)))
  go_upto_region 39 with fail
  go_quiet (fail)
  go_wp2
  go_ret2
  exact ⟨_, by first | rfl | simp [*] | (simp only [*]; rfl), Kd.R_nil _ _ _ _ _, by repeat (first | exact Below.refl _ _ | apply below_alloc | apply below_drew1 | apply pw_below_drewN)⟩
end Go.Proofs.Ytlhfhfamifmijaa.LeafN
end
