/- Part 20 of the proof: general lemmas, contracts of functions, walks. No condition of its own. -/
import Derived.Deep.RegionHeld3
import Derived.RowKit3
import Derived.Test.YtlhfhfamifmijaaK16
import Derived.Test.YtlhfhfamifmijaaK17
import Derived.Test.YtlhfhfamifmijaaK18
import Derived.Test.YtlhfhfamifmijaaK19
section
namespace Go.Proofs.Ytlhfhfamifmijaa.LeafN
open Go.RowKit Go.Proofs.YtlhfhfamifmijaaW.PrintWords Go.Proofs.YtlhfhfamifmijaaW.PrintMore Go.Proofs.Ytlhfhfamifmijaa.Law Go.Proofs.Ytlhfhfamifmijaa.Num Go.Proofs.Ytlhfhfamifmijaa
set_option linter.unusedVariables false
set_option linter.unusedSimpArgs false
set_option autoImplicit false
theorem infoWant : (Try.prog.info? 153).map (fun i => (i.zero, i.size, i.bytes)) = some (some (.agg #[.int .i64 0, .nilFunc]), 2, 16) := by kernel_rfl
set_option maxHeartbeats 8000000 in
set_option maxRecDepth 100000 in
theorem wants_23_0 (n : Node) (cs : List Value) (w : World) (hk : kNodeI.K w n cs) (hkind : n.kind = 23) (h0 : (n.c == -1) = true) :
    Calls Try.prog 107 #[.agg ⟨cs⟩] w fun e w' => ∃ v, e = .returned (.tuple #[v, .bool true]) ∧ kWant.R 153 w' w.heap.size (fun _ => True) v [⟨n.a, 0⟩, ⟨n.b, 1⟩] ∧ Below w.heap.size w w' := by
  obtain ⟨A4, c4, A5, c5, rfl, h4, g4, h5, g5⟩ := kNodeI_open hk
  clear hk g4 g5 h4 h5
  have q1 : (n.kind == 1) = false := by simp [hkind]
  have q2 : (n.kind == 2) = false := by simp [hkind]
  have q3 : (n.kind == 3) = false := by simp [hkind]
  have q4 : (n.kind == 4) = false := by simp [hkind]
  have q5 : (n.kind == 5) = false := by simp [hkind]
  have q6 : (n.kind == 6) = false := by simp [hkind]
  have q7 : (n.kind == 7) = false := by simp [hkind]
  have q8 : (n.kind == 8) = false := by simp [hkind]
  have q21 : (n.kind == 21) = false := by simp [hkind]
  have q22 : (n.kind == 22) = false := by simp [hkind]
  have q25 : (n.kind == 25) = false := by simp [hkind]
  have q26 : (n.kind == 26) = false := by simp [hkind]
  have q28 : (n.kind == 28) = false := by simp [hkind]
  have q20 : (n.kind == 20) = false := by simp [hkind]
  have q9 : (n.kind == 9) = false := by simp [hkind]
  have q10 : (n.kind == 10) = false := by simp [hkind]
  have q11 : (n.kind == 11) = false := by simp [hkind]
  have q13 : (n.kind == 13) = false := by simp [hkind]
  have q24 : (n.kind == 24) = false := by simp [hkind]
  have q27 : (n.kind == 27) = false := by simp [hkind]
  have q23 : (n.kind == 23) = true := by simp [hkind]
  clear hkind
  have M2 := Aside0.mk ((((Mem.start w).allocAt rfl #[.int .i64 n.kind, .int .i64 n.a, .int .i64 n.b, .int .i64 n.c, .slice A4 n.list.length c4, .slice A5 n.names.length c5, .int .u64 n.num, .int .i64 n.at_] 142).allocAt (g := w.heap.size + 1) (by simp) #[.int .i64 n.a, fnV 0] 153).allocAt (g := w.heap.size + 1 + 1) (by simp) #[.int .i64 n.b, fnV 0] 153)
  go_enter Try.func107, Try.ntmps107
  have h1 : (n.c != -1) = false := by simp [bne, h0]
  go_wp2; go_ret2
  exact ⟨_, rfl, (by first | (refine R_litd _ _ _ [⟨n.a, 0⟩, ⟨n.b, 1⟩] _ _ ?_ ?_ ?_ ?_ ?_ <;> first | rfl | (simp; done) | (simp; omega)) | (refine R_litg _ _ _ [⟨n.a, 0⟩, ⟨n.b, 1⟩] _ _ ?_ ?_ ?_ ?_ ?_ <;> first | rfl | (simp; done) | (simp; omega)) | (refine R_litn _ _ _ [⟨n.a, 0⟩, ⟨n.b, 1⟩] _ _ _ ?_ ?_ ?_ ?_ ?_ <;> first | rfl | (simp; done) | (simp; omega))), by repeat (first | exact Below.refl _ _ | apply below_alloc | apply below_drew1 | apply pw_below_drewN)⟩
set_option maxHeartbeats 8000000 in
set_option maxRecDepth 100000 in
theorem wants_23_1 (n : Node) (cs : List Value) (w : World) (hk : kNodeI.K w n cs) (hkind : n.kind = 23) (h0 : (n.c == -1) = false) :
    Calls Try.prog 107 #[.agg ⟨cs⟩] w fun e w' => ∃ v, e = .returned (.tuple #[v, .bool true]) ∧ kWant.R 153 w' w.heap.size (fun _ => True) v [⟨n.a, 0⟩, ⟨n.b, 1⟩, ⟨n.c, 3⟩] ∧ Below w.heap.size w w' := by
  obtain ⟨A4, c4, A5, c5, rfl, h4, g4, h5, g5⟩ := kNodeI_open hk
  clear hk g4 g5 h4 h5
  have q1 : (n.kind == 1) = false := by simp [hkind]
  have q2 : (n.kind == 2) = false := by simp [hkind]
  have q3 : (n.kind == 3) = false := by simp [hkind]
  have q4 : (n.kind == 4) = false := by simp [hkind]
  have q5 : (n.kind == 5) = false := by simp [hkind]
  have q6 : (n.kind == 6) = false := by simp [hkind]
  have q7 : (n.kind == 7) = false := by simp [hkind]
  have q8 : (n.kind == 8) = false := by simp [hkind]
  have q21 : (n.kind == 21) = false := by simp [hkind]
  have q22 : (n.kind == 22) = false := by simp [hkind]
  have q25 : (n.kind == 25) = false := by simp [hkind]
  have q26 : (n.kind == 26) = false := by simp [hkind]
  have q28 : (n.kind == 28) = false := by simp [hkind]
  have q20 : (n.kind == 20) = false := by simp [hkind]
  have q9 : (n.kind == 9) = false := by simp [hkind]
  have q10 : (n.kind == 10) = false := by simp [hkind]
  have q11 : (n.kind == 11) = false := by simp [hkind]
  have q13 : (n.kind == 13) = false := by simp [hkind]
  have q24 : (n.kind == 24) = false := by simp [hkind]
  have q27 : (n.kind == 27) = false := by simp [hkind]
  have q23 : (n.kind == 23) = true := by simp [hkind]
  clear hkind
  have M2 := Aside0.mk ((((Mem.start w).allocAt rfl #[.int .i64 n.kind, .int .i64 n.a, .int .i64 n.b, .int .i64 n.c, .slice A4 n.list.length c4, .slice A5 n.names.length c5, .int .u64 n.num, .int .i64 n.at_] 142).allocAt (g := w.heap.size + 1) (by simp) #[.int .i64 n.a, fnV 0] 153).allocAt (g := w.heap.size + 1 + 1) (by simp) #[.int .i64 n.b, fnV 0] 153)
  go_enter Try.func107, Try.ntmps107
  have h1 : (n.c != -1) = true := by simp [bne, h0]
  have zn := M2.out.box (.tail _ (.tail _ (.head _)))
  go_upto_region 34 with fail
  go_wp2_with (first | ((with_reducible refine gate_builtin (b := .append) (xs := #[.tmp 128, .tmp 132]) rfl ?_); at_builtin; refine Kd.R_append kWant (w0 := w) w.heap.size rfl (.tmp 128) (.tmp 132) 145 153 (.agg #[.int .i64 0, .nilFunc]) 16 rfl Try.underlying145 infoWant rfl (by decide) (by omega) _ [⟨n.a, 0⟩, ⟨n.b, 1⟩] ⟨n.c, 3⟩ [.int .i64 n.c, fnV 3] (fun _ => True) (fun _ => False) rfl ?aX ?aP (fun _ hk => hk.elim) ?aF ?aO ?aB ?aS ?aL ?_; (case aX => first | rfl | (go_simp; done) | (go_simp; rfl) | (simp; done)); (case aP => exact kWant_mkM _ _ _ _); (case aF => exact (fun _ _ => trivial)); (case aO => exact (by first | (refine R_litd _ _ _ [⟨n.a, 0⟩, ⟨n.b, 1⟩] _ _ ?_ ?_ ?_ ?_ ?_ <;> first | rfl | (simp; done) | (simp; omega)) | (refine R_litg _ _ _ [⟨n.a, 0⟩, ⟨n.b, 1⟩] _ _ ?_ ?_ ?_ ?_ ?_ <;> first | rfl | (simp; done) | (simp; omega)) | (refine R_litn _ _ _ [⟨n.a, 0⟩, ⟨n.b, 1⟩] _ _ _ ?_ ?_ ?_ ?_ ?_ <;> first | rfl | (simp; done) | (simp; omega)))); (case aB => exact (by repeat (first | exact Below.refl _ _ | apply below_alloc | apply below_drew1 | apply pw_below_drewN))); (case aS => first | (simp; done) | (simp; omega)); (case aL => first | decide | (simp; done) | (simp; omega)); intro v9 w9 ho hb hg hat; have HO := Aside0.mk ho; have HB := Aside0.mk hb; clear ho hb hg hat; go_wp2))
  go_ret2
  exact ⟨_, rfl, HO.out, HB.out⟩
set_option maxHeartbeats 8000000 in
set_option maxRecDepth 100000 in
theorem wants_else (n : Node) (cs : List Value) (w : World) (hk : kNodeI.K w n cs) (hkind : ∀ c : Int, c ∈ [1, 2, 3, 4, 5, 6, 7, 8, 21, 22, 25, 26, 28, 20, 9, 10, 11, 13, 24, 27, 23, 12, 29] → (n.kind == c) = false)  :
    Calls Try.prog 107 #[.agg ⟨cs⟩] w fun e w' => ∃ v, e = .returned (.tuple #[v, .bool false]) ∧ kWant.R 153 w' w.heap.size (fun _ => True) v [] ∧ Below w.heap.size w w' := by
  obtain ⟨A4, c4, A5, c5, rfl, h4, g4, h5, g5⟩ := kNodeI_open hk
  clear hk g4 g5 h4 h5
  have q1 : (n.kind == 1) = false := hkind 1 (by decide)
  have q2 : (n.kind == 2) = false := hkind 2 (by decide)
  have q3 : (n.kind == 3) = false := hkind 3 (by decide)
  have q4 : (n.kind == 4) = false := hkind 4 (by decide)
  have q5 : (n.kind == 5) = false := hkind 5 (by decide)
  have q6 : (n.kind == 6) = false := hkind 6 (by decide)
  have q7 : (n.kind == 7) = false := hkind 7 (by decide)
  have q8 : (n.kind == 8) = false := hkind 8 (by decide)
  have q21 : (n.kind == 21) = false := hkind 21 (by decide)
  have q22 : (n.kind == 22) = false := hkind 22 (by decide)
  have q25 : (n.kind == 25) = false := hkind 25 (by decide)
  have q26 : (n.kind == 26) = false := hkind 26 (by decide)
  have q28 : (n.kind == 28) = false := hkind 28 (by decide)
  have q20 : (n.kind == 20) = false := hkind 20 (by decide)
  have q9 : (n.kind == 9) = false := hkind 9 (by decide)
  have q10 : (n.kind == 10) = false := hkind 10 (by decide)
  have q11 : (n.kind == 11) = false := hkind 11 (by decide)
  have q13 : (n.kind == 13) = false := hkind 13 (by decide)
  have q24 : (n.kind == 24) = false := hkind 24 (by decide)
  have q27 : (n.kind == 27) = false := hkind 27 (by decide)
  have q23 : (n.kind == 23) = false := hkind 23 (by decide)
  have q12 : (n.kind == 12) = false := hkind 12 (by decide)
  have q29 : (n.kind == 29) = false := hkind 29 (by decide)
  clear hkind
  have M2 := Aside0.mk ((((Mem.start w).allocAt rfl #[.int .i64 n.kind, .int .i64 n.a, .int .i64 n.b, .int .i64 n.c, .slice A4 n.list.length c4, .slice A5 n.names.length c5, .int .u64 n.num, .int .i64 n.at_] 142).allocAt (g := w.heap.size + 1) (by simp) #[.int .i64 n.a, fnV 0] 153).allocAt (g := w.heap.size + 1 + 1) (by simp) #[.int .i64 n.b, fnV 0] 153)
  go_enter Try.func107, Try.ntmps107
  have zn := M2.out.box (.tail _ (.tail _ (.head _)))
  go_upto_region 39 with fail
  go_quiet (fail)
  go_wp2
  go_ret2
  exact ⟨_, by first | rfl | simp [*] | (simp only [*]; rfl), Kd.R_nil _ _ _ _ _, by repeat (first | exact Below.refl _ _ | apply below_alloc | apply below_drew1 | apply pw_below_drewN)⟩
end Go.Proofs.Ytlhfhfamifmijaa.LeafN
end
section
namespace Go.Proofs.Ytlhfhfamifmijaa.LeafN
open Go.RowKit Go.Proofs.YtlhfhfamifmijaaW.PrintWords Go.Proofs.YtlhfhfamifmijaaW.PrintMore Go.Proofs.Ytlhfhfamifmijaa.Law Go.Proofs.Ytlhfhfamifmijaa.Num Go.Proofs.Ytlhfhfamifmijaa
set_option linter.unusedVariables false
set_option linter.unusedSimpArgs false
set_option autoImplicit false
/-- The parts of a node and what each has to be, as the program has them. -/
def wantsL (n : Node) : List Want :=
  if n.kind = 7 ∨ n.kind = 8 ∨ n.kind = 21 ∨ n.kind = 22 ∨ n.kind = 25 ∨ n.kind = 26 ∨ n.kind = 28 ∨ n.kind = 20 ∨ n.kind = 12 then [⟨n.a, 0⟩]
  else if n.kind = 9 ∨ n.kind = 10 ∨ n.kind = 11 then [⟨n.a, 0⟩, ⟨n.b, 0⟩] else if n.kind = 13 then [⟨n.a, 1⟩]
  else if n.kind = 24 then [⟨n.a, 0⟩, ⟨n.b, 1⟩] else if n.kind = 27 then [⟨n.a, 1⟩, ⟨n.b, 1⟩]
  else if n.kind = 23 then (if n.c = -1 then [⟨n.a, 0⟩, ⟨n.b, 1⟩] else [⟨n.a, 0⟩, ⟨n.b, 1⟩, ⟨n.c, 3⟩]) else []
def wantsO (n : Node) : Bool :=
  if n.kind = 1 ∨ n.kind = 2 ∨ n.kind = 3 ∨ n.kind = 4 ∨ n.kind = 5 ∨ n.kind = 6 ∨ n.kind = 29 then n.a == 0 && (n.b == 0 && n.c == 0)
  else if n.kind = 7 ∨ n.kind = 8 ∨ n.kind = 21 ∨ n.kind = 22 ∨ n.kind = 25 ∨ n.kind = 26 ∨ n.kind = 28 ∨ n.kind = 13 ∨ n.kind = 12 then n.b == 0 && n.c == 0
  else if n.kind = 20 then inB n.b 0 1 && n.c == 0 else if n.kind = 9 then inB n.c 1 11
  else if n.kind = 10 ∨ n.kind = 11 ∨ n.kind = 24 ∨ n.kind = 27 then n.c == 0 else n.kind == 23
theorem cWants (n : Node) (cs : List Value) (w : World) (hk : kNodeI.K w n cs) :
    Calls Try.prog 107 #[.agg ⟨cs⟩] w fun e w' => ∃ v, e = .returned (.tuple #[v, .bool (wantsO n)]) ∧ kWant.R 153 w' w.heap.size (fun _ => True) v (wantsL n) ∧ Below w.heap.size w w' := by
  have hkinds : n.kind = 1 ∨ n.kind = 2 ∨ n.kind = 3 ∨ n.kind = 4 ∨ n.kind = 5 ∨ n.kind = 6 ∨ n.kind = 7 ∨ n.kind = 8 ∨ n.kind = 9 ∨ n.kind = 10 ∨ n.kind = 11 ∨ n.kind = 12 ∨ n.kind = 13 ∨ n.kind = 20 ∨ n.kind = 21 ∨ n.kind = 22 ∨ n.kind = 23 ∨ n.kind = 24 ∨ n.kind = 25 ∨ n.kind = 26 ∨ n.kind = 27 ∨ n.kind = 28 ∨ n.kind = 29 ∨ (∀ c : Int, c ∈ ([1, 2, 3, 4, 5, 6, 7, 8, 21, 22, 25, 26, 28, 20, 9, 10, 11, 13, 24, 27, 23, 12, 29] : List Int) → (n.kind == c) = false) := by
    by_cases hr : (1 ≤ n.kind ∧ n.kind ≤ 13) ∨ (20 ≤ n.kind ∧ n.kind ≤ 29)
    · omega
    · iterate 23 right
      intro c hc
      simp only [List.mem_cons, List.not_mem_nil, or_false] at hc
      have : n.kind ≠ c := by omega
      simp [this]
  rcases hkinds with hk1 | hk1 | hk1 | hk1 | hk1 | hk1 | hk1 | hk1 | hk1 | hk1 | hk1 | hk1 | hk1 | hk1 | hk1 | hk1 | hk1 | hk1 | hk1 | hk1 | hk1 | hk1 | hk1 | hk1
  · skip
    rcases Bool.eq_false_or_eq_true (n.a == 0) with h0 | h0
    · skip
      rcases Bool.eq_false_or_eq_true (n.b == 0) with h1 | h1
      · skip
        rcases Bool.eq_false_or_eq_true (n.c == 0) with h2 | h2
        · skip
          have h := wants_1_3 n cs w hk hk1 h0 h1 h2
          rw [show wantsO n = true by simp only [wantsO, hk1]; simp [h0, h1, h2], show wantsL n = [] by simp [wantsL, hk1]]
          exact h
        · skip
          have h := wants_1_2 n cs w hk hk1 h0 h1 h2
          rw [show wantsO n = false by simp only [wantsO, hk1]; simp [h0, h1, h2], show wantsL n = [] by simp [wantsL, hk1]]
          exact h
      · skip
        have h := wants_1_1 n cs w hk hk1 h0 h1
        rw [show wantsO n = false by simp only [wantsO, hk1]; simp [h0, h1], show wantsL n = [] by simp [wantsL, hk1]]
        exact h
    · skip
      have h := wants_1_0 n cs w hk hk1 h0
      rw [show wantsO n = false by simp only [wantsO, hk1]; simp [h0], show wantsL n = [] by simp [wantsL, hk1]]
      exact h
  · skip
    rcases Bool.eq_false_or_eq_true (n.a == 0) with h0 | h0
    · skip
      rcases Bool.eq_false_or_eq_true (n.b == 0) with h1 | h1
      · skip
        rcases Bool.eq_false_or_eq_true (n.c == 0) with h2 | h2
        · skip
          have h := wants_2_3 n cs w hk hk1 h0 h1 h2
          rw [show wantsO n = true by simp only [wantsO, hk1]; simp [h0, h1, h2], show wantsL n = [] by simp [wantsL, hk1]]
          exact h
        · skip
          have h := wants_2_2 n cs w hk hk1 h0 h1 h2
          rw [show wantsO n = false by simp only [wantsO, hk1]; simp [h0, h1, h2], show wantsL n = [] by simp [wantsL, hk1]]
          exact h
      · skip
        have h := wants_2_1 n cs w hk hk1 h0 h1
        rw [show wantsO n = false by simp only [wantsO, hk1]; simp [h0, h1], show wantsL n = [] by simp [wantsL, hk1]]
        exact h
    · skip
      have h := wants_2_0 n cs w hk hk1 h0
      rw [show wantsO n = false by simp only [wantsO, hk1]; simp [h0], show wantsL n = [] by simp [wantsL, hk1]]
      exact h
  · skip
    rcases Bool.eq_false_or_eq_true (n.a == 0) with h0 | h0
    · skip
      rcases Bool.eq_false_or_eq_true (n.b == 0) with h1 | h1
      · skip
        rcases Bool.eq_false_or_eq_true (n.c == 0) with h2 | h2
        · skip
          have h := wants_3_3 n cs w hk hk1 h0 h1 h2
          rw [show wantsO n = true by simp only [wantsO, hk1]; simp [h0, h1, h2], show wantsL n = [] by simp [wantsL, hk1]]
          exact h
        · skip
          have h := wants_3_2 n cs w hk hk1 h0 h1 h2
          rw [show wantsO n = false by simp only [wantsO, hk1]; simp [h0, h1, h2], show wantsL n = [] by simp [wantsL, hk1]]
          exact h
      · skip
        have h := wants_3_1 n cs w hk hk1 h0 h1
        rw [show wantsO n = false by simp only [wantsO, hk1]; simp [h0, h1], show wantsL n = [] by simp [wantsL, hk1]]
        exact h
    · skip
      have h := wants_3_0 n cs w hk hk1 h0
      rw [show wantsO n = false by simp only [wantsO, hk1]; simp [h0], show wantsL n = [] by simp [wantsL, hk1]]
      exact h
  · skip
    rcases Bool.eq_false_or_eq_true (n.a == 0) with h0 | h0
    · skip
      rcases Bool.eq_false_or_eq_true (n.b == 0) with h1 | h1
      · skip
        rcases Bool.eq_false_or_eq_true (n.c == 0) with h2 | h2
        · skip
          have h := wants_4_3 n cs w hk hk1 h0 h1 h2
          rw [show wantsO n = true by simp only [wantsO, hk1]; simp [h0, h1, h2], show wantsL n = [] by simp [wantsL, hk1]]
          exact h
        · skip
          have h := wants_4_2 n cs w hk hk1 h0 h1 h2
          rw [show wantsO n = false by simp only [wantsO, hk1]; simp [h0, h1, h2], show wantsL n = [] by simp [wantsL, hk1]]
          exact h
      · skip
        have h := wants_4_1 n cs w hk hk1 h0 h1
        rw [show wantsO n = false by simp only [wantsO, hk1]; simp [h0, h1], show wantsL n = [] by simp [wantsL, hk1]]
        exact h
    · skip
      have h := wants_4_0 n cs w hk hk1 h0
      rw [show wantsO n = false by simp only [wantsO, hk1]; simp [h0], show wantsL n = [] by simp [wantsL, hk1]]
      exact h
  · skip
    rcases Bool.eq_false_or_eq_true (n.a == 0) with h0 | h0
    · skip
      rcases Bool.eq_false_or_eq_true (n.b == 0) with h1 | h1
      · skip
        rcases Bool.eq_false_or_eq_true (n.c == 0) with h2 | h2
        · skip
          have h := wants_5_3 n cs w hk hk1 h0 h1 h2
          rw [show wantsO n = true by simp only [wantsO, hk1]; simp [h0, h1, h2], show wantsL n = [] by simp [wantsL, hk1]]
          exact h
        · skip
          have h := wants_5_2 n cs w hk hk1 h0 h1 h2
          rw [show wantsO n = false by simp only [wantsO, hk1]; simp [h0, h1, h2], show wantsL n = [] by simp [wantsL, hk1]]
          exact h
      · skip
        have h := wants_5_1 n cs w hk hk1 h0 h1
        rw [show wantsO n = false by simp only [wantsO, hk1]; simp [h0, h1], show wantsL n = [] by simp [wantsL, hk1]]
        exact h
    · skip
      have h := wants_5_0 n cs w hk hk1 h0
      rw [show wantsO n = false by simp only [wantsO, hk1]; simp [h0], show wantsL n = [] by simp [wantsL, hk1]]
      exact h
  · skip
    rcases Bool.eq_false_or_eq_true (n.a == 0) with h0 | h0
    · skip
      rcases Bool.eq_false_or_eq_true (n.b == 0) with h1 | h1
      · skip
        rcases Bool.eq_false_or_eq_true (n.c == 0) with h2 | h2
        · skip
          have h := wants_6_3 n cs w hk hk1 h0 h1 h2
          rw [show wantsO n = true by simp only [wantsO, hk1]; simp [h0, h1, h2], show wantsL n = [] by simp [wantsL, hk1]]
          exact h
        · skip
          have h := wants_6_2 n cs w hk hk1 h0 h1 h2
          rw [show wantsO n = false by simp only [wantsO, hk1]; simp [h0, h1, h2], show wantsL n = [] by simp [wantsL, hk1]]
          exact h
      · skip
        have h := wants_6_1 n cs w hk hk1 h0 h1
        rw [show wantsO n = false by simp only [wantsO, hk1]; simp [h0, h1], show wantsL n = [] by simp [wantsL, hk1]]
        exact h
    · skip
      have h := wants_6_0 n cs w hk hk1 h0
      rw [show wantsO n = false by simp only [wantsO, hk1]; simp [h0], show wantsL n = [] by simp [wantsL, hk1]]
      exact h
  · skip
    rcases Bool.eq_false_or_eq_true (n.b == 0) with h0 | h0
    · skip
      rcases Bool.eq_false_or_eq_true (n.c == 0) with h1 | h1
      · skip
        have h := wants_7_2 n cs w hk hk1 h0 h1
        rw [show wantsO n = true by simp only [wantsO, hk1]; simp [h0, h1], show wantsL n = [⟨n.a, 0⟩] by simp [wantsL, hk1]]
        exact h
      · skip
        have h := wants_7_1 n cs w hk hk1 h0 h1
        rw [show wantsO n = false by simp only [wantsO, hk1]; simp [h0, h1], show wantsL n = [⟨n.a, 0⟩] by simp [wantsL, hk1]]
        exact h
    · skip
      have h := wants_7_0 n cs w hk hk1 h0
      rw [show wantsO n = false by simp only [wantsO, hk1]; simp [h0], show wantsL n = [⟨n.a, 0⟩] by simp [wantsL, hk1]]
      exact h
  · skip
    rcases Bool.eq_false_or_eq_true (n.b == 0) with h0 | h0
    · skip
      rcases Bool.eq_false_or_eq_true (n.c == 0) with h1 | h1
      · skip
        have h := wants_8_2 n cs w hk hk1 h0 h1
        rw [show wantsO n = true by simp only [wantsO, hk1]; simp [h0, h1], show wantsL n = [⟨n.a, 0⟩] by simp [wantsL, hk1]]
        exact h
      · skip
        have h := wants_8_1 n cs w hk hk1 h0 h1
        rw [show wantsO n = false by simp only [wantsO, hk1]; simp [h0, h1], show wantsL n = [⟨n.a, 0⟩] by simp [wantsL, hk1]]
        exact h
    · skip
      have h := wants_8_0 n cs w hk hk1 h0
      rw [show wantsO n = false by simp only [wantsO, hk1]; simp [h0], show wantsL n = [⟨n.a, 0⟩] by simp [wantsL, hk1]]
      exact h
  · skip
    rcases Bool.eq_false_or_eq_true (inB n.c 1 11) with h0 | h0
    · skip
      have h := wants_9_1 n cs w hk hk1 h0
      rw [show wantsO n = true by simp only [wantsO, hk1]; simp [h0], show wantsL n = [⟨n.a, 0⟩, ⟨n.b, 0⟩] by simp [wantsL, hk1]]
      exact h
    · skip
      have h := wants_9_0 n cs w hk hk1 h0
      rw [show wantsO n = false by simp only [wantsO, hk1]; simp [h0], show wantsL n = [⟨n.a, 0⟩, ⟨n.b, 0⟩] by simp [wantsL, hk1]]
      exact h
  · skip
    rcases Bool.eq_false_or_eq_true (n.c == 0) with h0 | h0
    · skip
      have h := wants_10_1 n cs w hk hk1 h0
      rw [show wantsO n = true by simp only [wantsO, hk1]; simp [h0], show wantsL n = [⟨n.a, 0⟩, ⟨n.b, 0⟩] by simp [wantsL, hk1]]
      exact h
    · skip
      have h := wants_10_0 n cs w hk hk1 h0
      rw [show wantsO n = false by simp only [wantsO, hk1]; simp [h0], show wantsL n = [⟨n.a, 0⟩, ⟨n.b, 0⟩] by simp [wantsL, hk1]]
      exact h
  · skip
    rcases Bool.eq_false_or_eq_true (n.c == 0) with h0 | h0
    · skip
      have h := wants_11_1 n cs w hk hk1 h0
      rw [show wantsO n = true by simp only [wantsO, hk1]; simp [h0], show wantsL n = [⟨n.a, 0⟩, ⟨n.b, 0⟩] by simp [wantsL, hk1]]
      exact h
    · skip
      have h := wants_11_0 n cs w hk hk1 h0
      rw [show wantsO n = false by simp only [wantsO, hk1]; simp [h0], show wantsL n = [⟨n.a, 0⟩, ⟨n.b, 0⟩] by simp [wantsL, hk1]]
      exact h
  · skip
    rcases Bool.eq_false_or_eq_true (n.b == 0) with h0 | h0
    · skip
      rcases Bool.eq_false_or_eq_true (n.c == 0) with h1 | h1
      · skip
        have h := wants_12_2 n cs w hk hk1 h0 h1
        rw [show wantsO n = true by simp only [wantsO, hk1]; simp [h0, h1], show wantsL n = [⟨n.a, 0⟩] by simp [wantsL, hk1]]
        exact h
      · skip
        have h := wants_12_1 n cs w hk hk1 h0 h1
        rw [show wantsO n = false by simp only [wantsO, hk1]; simp [h0, h1], show wantsL n = [⟨n.a, 0⟩] by simp [wantsL, hk1]]
        exact h
    · skip
      have h := wants_12_0 n cs w hk hk1 h0
      rw [show wantsO n = false by simp only [wantsO, hk1]; simp [h0], show wantsL n = [⟨n.a, 0⟩] by simp [wantsL, hk1]]
      exact h
  · skip
    rcases Bool.eq_false_or_eq_true (n.b == 0) with h0 | h0
    · skip
      rcases Bool.eq_false_or_eq_true (n.c == 0) with h1 | h1
      · skip
        have h := wants_13_2 n cs w hk hk1 h0 h1
        rw [show wantsO n = true by simp only [wantsO, hk1]; simp [h0, h1], show wantsL n = [⟨n.a, 1⟩] by simp [wantsL, hk1]]
        exact h
      · skip
        have h := wants_13_1 n cs w hk hk1 h0 h1
        rw [show wantsO n = false by simp only [wantsO, hk1]; simp [h0, h1], show wantsL n = [⟨n.a, 1⟩] by simp [wantsL, hk1]]
        exact h
    · skip
      have h := wants_13_0 n cs w hk hk1 h0
      rw [show wantsO n = false by simp only [wantsO, hk1]; simp [h0], show wantsL n = [⟨n.a, 1⟩] by simp [wantsL, hk1]]
      exact h
  · skip
    rcases Bool.eq_false_or_eq_true (inB n.b 0 1) with h0 | h0
    · skip
      rcases Bool.eq_false_or_eq_true (n.c == 0) with h1 | h1
      · skip
        have h := wants_20_2 n cs w hk hk1 h0 h1
        rw [show wantsO n = true by simp only [wantsO, hk1]; simp [h0, h1], show wantsL n = [⟨n.a, 0⟩] by simp [wantsL, hk1]]
        exact h
      · skip
        have h := wants_20_1 n cs w hk hk1 h0 h1
        rw [show wantsO n = false by simp only [wantsO, hk1]; simp [h0, h1], show wantsL n = [⟨n.a, 0⟩] by simp [wantsL, hk1]]
        exact h
    · skip
      have h := wants_20_0 n cs w hk hk1 h0
      rw [show wantsO n = false by simp only [wantsO, hk1]; simp [h0], show wantsL n = [⟨n.a, 0⟩] by simp [wantsL, hk1]]
      exact h
  · skip
    rcases Bool.eq_false_or_eq_true (n.b == 0) with h0 | h0
    · skip
      rcases Bool.eq_false_or_eq_true (n.c == 0) with h1 | h1
      · skip
        have h := wants_21_2 n cs w hk hk1 h0 h1
        rw [show wantsO n = true by simp only [wantsO, hk1]; simp [h0, h1], show wantsL n = [⟨n.a, 0⟩] by simp [wantsL, hk1]]
        exact h
      · skip
        have h := wants_21_1 n cs w hk hk1 h0 h1
        rw [show wantsO n = false by simp only [wantsO, hk1]; simp [h0, h1], show wantsL n = [⟨n.a, 0⟩] by simp [wantsL, hk1]]
        exact h
    · skip
      have h := wants_21_0 n cs w hk hk1 h0
      rw [show wantsO n = false by simp only [wantsO, hk1]; simp [h0], show wantsL n = [⟨n.a, 0⟩] by simp [wantsL, hk1]]
      exact h
  · skip
    rcases Bool.eq_false_or_eq_true (n.b == 0) with h0 | h0
    · skip
      rcases Bool.eq_false_or_eq_true (n.c == 0) with h1 | h1
      · skip
        have h := wants_22_2 n cs w hk hk1 h0 h1
        rw [show wantsO n = true by simp only [wantsO, hk1]; simp [h0, h1], show wantsL n = [⟨n.a, 0⟩] by simp [wantsL, hk1]]
        exact h
      · skip
        have h := wants_22_1 n cs w hk hk1 h0 h1
        rw [show wantsO n = false by simp only [wantsO, hk1]; simp [h0, h1], show wantsL n = [⟨n.a, 0⟩] by simp [wantsL, hk1]]
        exact h
    · skip
      have h := wants_22_0 n cs w hk hk1 h0
      rw [show wantsO n = false by simp only [wantsO, hk1]; simp [h0], show wantsL n = [⟨n.a, 0⟩] by simp [wantsL, hk1]]
      exact h
  · rcases Bool.eq_false_or_eq_true (n.c == -1) with h0 | h0
    · have h := wants_23_0 n cs w hk hk1 h0
      have hc : n.c = -1 := by simpa using h0
      rw [show wantsO n = true by simp [wantsO, hk1], show wantsL n = _ by simp only [wantsL, hk1]; simp [hc]; rfl]
      exact h
    · have h := wants_23_1 n cs w hk hk1 h0
      have hc : ¬ n.c = -1 := by simpa using h0
      rw [show wantsO n = true by simp [wantsO, hk1], show wantsL n = _ by simp only [wantsL, hk1]; simp [hc]; rfl]
      exact h
  · skip
    rcases Bool.eq_false_or_eq_true (n.c == 0) with h0 | h0
    · skip
      have h := wants_24_1 n cs w hk hk1 h0
      rw [show wantsO n = true by simp only [wantsO, hk1]; simp [h0], show wantsL n = [⟨n.a, 0⟩, ⟨n.b, 1⟩] by simp [wantsL, hk1]]
      exact h
    · skip
      have h := wants_24_0 n cs w hk hk1 h0
      rw [show wantsO n = false by simp only [wantsO, hk1]; simp [h0], show wantsL n = [⟨n.a, 0⟩, ⟨n.b, 1⟩] by simp [wantsL, hk1]]
      exact h
  · skip
    rcases Bool.eq_false_or_eq_true (n.b == 0) with h0 | h0
    · skip
      rcases Bool.eq_false_or_eq_true (n.c == 0) with h1 | h1
      · skip
        have h := wants_25_2 n cs w hk hk1 h0 h1
        rw [show wantsO n = true by simp only [wantsO, hk1]; simp [h0, h1], show wantsL n = [⟨n.a, 0⟩] by simp [wantsL, hk1]]
        exact h
      · skip
        have h := wants_25_1 n cs w hk hk1 h0 h1
        rw [show wantsO n = false by simp only [wantsO, hk1]; simp [h0, h1], show wantsL n = [⟨n.a, 0⟩] by simp [wantsL, hk1]]
        exact h
    · skip
      have h := wants_25_0 n cs w hk hk1 h0
      rw [show wantsO n = false by simp only [wantsO, hk1]; simp [h0], show wantsL n = [⟨n.a, 0⟩] by simp [wantsL, hk1]]
      exact h
  · skip
    rcases Bool.eq_false_or_eq_true (n.b == 0) with h0 | h0
    · skip
      rcases Bool.eq_false_or_eq_true (n.c == 0) with h1 | h1
      · skip
        have h := wants_26_2 n cs w hk hk1 h0 h1
        rw [show wantsO n = true by simp only [wantsO, hk1]; simp [h0, h1], show wantsL n = [⟨n.a, 0⟩] by simp [wantsL, hk1]]
        exact h
      · skip
        have h := wants_26_1 n cs w hk hk1 h0 h1
        rw [show wantsO n = false by simp only [wantsO, hk1]; simp [h0, h1], show wantsL n = [⟨n.a, 0⟩] by simp [wantsL, hk1]]
        exact h
    · skip
      have h := wants_26_0 n cs w hk hk1 h0
      rw [show wantsO n = false by simp only [wantsO, hk1]; simp [h0], show wantsL n = [⟨n.a, 0⟩] by simp [wantsL, hk1]]
      exact h
  · skip
    rcases Bool.eq_false_or_eq_true (n.c == 0) with h0 | h0
    · skip
      have h := wants_27_1 n cs w hk hk1 h0
      rw [show wantsO n = true by simp only [wantsO, hk1]; simp [h0], show wantsL n = [⟨n.a, 1⟩, ⟨n.b, 1⟩] by simp [wantsL, hk1]]
      exact h
    · skip
      have h := wants_27_0 n cs w hk hk1 h0
      rw [show wantsO n = false by simp only [wantsO, hk1]; simp [h0], show wantsL n = [⟨n.a, 1⟩, ⟨n.b, 1⟩] by simp [wantsL, hk1]]
      exact h
  · skip
    rcases Bool.eq_false_or_eq_true (n.b == 0) with h0 | h0
    · skip
      rcases Bool.eq_false_or_eq_true (n.c == 0) with h1 | h1
      · skip
        have h := wants_28_2 n cs w hk hk1 h0 h1
        rw [show wantsO n = true by simp only [wantsO, hk1]; simp [h0, h1], show wantsL n = [⟨n.a, 0⟩] by simp [wantsL, hk1]]
        exact h
      · skip
        have h := wants_28_1 n cs w hk hk1 h0 h1
        rw [show wantsO n = false by simp only [wantsO, hk1]; simp [h0, h1], show wantsL n = [⟨n.a, 0⟩] by simp [wantsL, hk1]]
        exact h
    · skip
      have h := wants_28_0 n cs w hk hk1 h0
      rw [show wantsO n = false by simp only [wantsO, hk1]; simp [h0], show wantsL n = [⟨n.a, 0⟩] by simp [wantsL, hk1]]
      exact h
  · skip
    rcases Bool.eq_false_or_eq_true (n.a == 0) with h0 | h0
    · skip
      rcases Bool.eq_false_or_eq_true (n.b == 0) with h1 | h1
      · skip
        rcases Bool.eq_false_or_eq_true (n.c == 0) with h2 | h2
        · skip
          have h := wants_29_3 n cs w hk hk1 h0 h1 h2
          rw [show wantsO n = true by simp only [wantsO, hk1]; simp [h0, h1, h2], show wantsL n = [] by simp [wantsL, hk1]]
          exact h
        · skip
          have h := wants_29_2 n cs w hk hk1 h0 h1 h2
          rw [show wantsO n = false by simp only [wantsO, hk1]; simp [h0, h1, h2], show wantsL n = [] by simp [wantsL, hk1]]
          exact h
      · skip
        have h := wants_29_1 n cs w hk hk1 h0 h1
        rw [show wantsO n = false by simp only [wantsO, hk1]; simp [h0, h1], show wantsL n = [] by simp [wantsL, hk1]]
        exact h
    · skip
      have h := wants_29_0 n cs w hk hk1 h0
      rw [show wantsO n = false by simp only [wantsO, hk1]; simp [h0], show wantsL n = [] by simp [wantsL, hk1]]
      exact h
  · have h := wants_else n cs w hk hk1
    have hne : ∀ c : Int, c ∈ ([1, 2, 3, 4, 5, 6, 7, 8, 21, 22, 25, 26, 28, 20, 9, 10, 11, 13, 24, 27, 23, 12, 29] : List Int) → ¬ n.kind = c := fun c hc e => by have := hk1 c hc; simp [e] at this
    rw [show wantsO n = false by simp [wantsO, hne 1 (by decide), hne 2 (by decide), hne 3 (by decide), hne 4 (by decide), hne 5 (by decide), hne 6 (by decide), hne 7 (by decide), hne 8 (by decide), hne 21 (by decide), hne 22 (by decide), hne 25 (by decide), hne 26 (by decide), hne 28 (by decide), hne 20 (by decide), hne 9 (by decide), hne 10 (by decide), hne 11 (by decide), hne 13 (by decide), hne 24 (by decide), hne 27 (by decide), hne 23 (by decide), hne 12 (by decide), hne 29 (by decide)], show wantsL n = [] by simp [wantsL, hne 1 (by decide), hne 2 (by decide), hne 3 (by decide), hne 4 (by decide), hne 5 (by decide), hne 6 (by decide), hne 7 (by decide), hne 8 (by decide), hne 21 (by decide), hne 22 (by decide), hne 25 (by decide), hne 26 (by decide), hne 28 (by decide), hne 20 (by decide), hne 9 (by decide), hne 10 (by decide), hne 11 (by decide), hne 13 (by decide), hne 24 (by decide), hne 27 (by decide), hne 23 (by decide), hne 12 (by decide), hne 29 (by decide)]]
    exact h
end Go.Proofs.Ytlhfhfamifmijaa.LeafN
end
section
namespace Go.Proofs.Ytlhfhfamifmijaa.LeafN
open Go.RowKit Go.Proofs.YtlhfhfamifmijaaW.PrintWords Go.Proofs.YtlhfhfamifmijaaW.PrintMore Go.Proofs.Ytlhfhfamifmijaa.Law Go.Proofs.Ytlhfhfamifmijaa.Num Go.Proofs.Ytlhfhfamifmijaa
set_option linter.unusedVariables false
set_option linter.unusedSimpArgs false
set_option autoImplicit false
theorem cNotName (s : ByteArray) (w : World) : Calls Try.prog 170 #[.string s] w fun e w' => e = .returned (.bool (!nameOk s)) ∧ Below w.heap.size w w' := by
  rcases Bool.eq_false_or_eq_true (nameOk s) with h | h
  · go_enter Try.func170, Try.ntmps170
    go_wp2_with fail
    refine (cImplName _ _).mono ?_; rintro e w1 ⟨rfl, hb⟩; rw [h]
    have HH := Aside0.mk h; clear h
    go_wp2
    go_ret
    exact ⟨by rw [HH.out]; rfl, hb⟩
  · go_enter Try.func170, Try.ntmps170
    go_wp2_with fail
    refine (cImplName _ _).mono ?_; rintro e w1 ⟨rfl, hb⟩; rw [h]
    have HH := Aside0.mk h; clear h
    go_wp2
    go_ret
    exact ⟨by rw [HH.out]; rfl, hb⟩
set_option maxHeartbeats 4000000 in
set_option maxRecDepth 100000 in
theorem cIndexBad (A : Option Addr) (c : Nat) (l : List ByteArray) (w : World) (hr : Kd.string.C w A l.length l) :
    Calls Try.prog 220 #[.slice A l.length c, .func (.func 170) #[] #[]] w fun e w' => ∃ r : Int, e = .returned (.int .i64 r) ∧ decide (r ≥ 0) = !l.all nameOk ∧ Below w.heap.size w w' := by
  have HR := Aside0.mk hr
  have hL : l.length ≤ 9223372036854775807 := hr.2.1
  clear hr
  go_enter Try.func220, Try.ntmps220
  go_wp2
  go_loopw [8] (fun v wr => ∃ (j : Nat), v = .int .i64 j ∧ j ≤ l.length ∧ Aside0 (∀ q : Nat, q < j → nameOk (el ByteArray.empty l q) = true) ∧ Aside0 (Below w.heap.size w wr)) (fun v _ => l.length - (intOf v).toNat)
  case atStart => exact ⟨0, rfl, by omega, ⟨fun q hq => by omega⟩, ⟨Below.refl _ _⟩⟩
  case round =>
    obtain ⟨j, rfl, hj, HE, HW⟩ := hrel
    by_cases hlt : j < l.length
    · obtain ⟨a, rfl, hxa⟩ := string_at (Kd.C_below HR.out HW.out) j hlt
      have hjl : (j : Int) < (l.length : Int) := by omega
      go_wp2_with fail
      refine (cNotName _ _).mono ?_
      rintro e w1 ⟨rfl, hb⟩
      have HW2 := Aside0.mk (below_step HW.out hb); clear hb HW
      rcases Bool.eq_false_or_eq_true (nameOk (el ByteArray.empty l j)) with h | h
      · rw [h]
        have HH := Aside0.mk h; clear h
        go_wp2
        go_roundw
        case measure => simp [intOf]; omega
        case rel => exact ⟨j + 1, by go_num, by omega, ⟨fun q hq => by rcases Nat.lt_succ_iff_lt_or_eq.1 hq with h | h; exact HE.out q h; rw [h]; exact HH.out⟩, HW2⟩
      · rw [h]
        have HH := Aside0.mk h; clear h
        go_wp2
        go_ret
        refine ⟨_, rfl, ?_, HW2.out⟩
        rw [show l.all nameOk = false from by rw [List.all_eq_false]; exact ⟨_, el_mem ByteArray.empty hlt, by rw [HH.out]; decide⟩]
        simp
    · have hjl : ¬ (j : Int) < (l.length : Int) := by omega
      go_wp2
      go_ret
      refine ⟨_, rfl, ?_, HW.out⟩
      rw [show l.all nameOk = true from by rw [List.all_eq_true]; intro y hy; obtain ⟨q, hq, rfl⟩ := List.getElem_of_mem hy; rw [← el_lt ByteArray.empty hq]; exact HE.out q (by omega)]
      simp
theorem cHasBad (A : Option Addr) (c : Nat) (l : List ByteArray) (w : World) (hr : Kd.string.C w A l.length l) :
    Calls Try.prog 169 #[.slice A l.length c, .func (.func 170) #[] #[]] w fun e w' => e = .returned (.bool (!l.all nameOk)) ∧ Below w.heap.size w w' := by
  go_enter Try.func169, Try.ntmps169
  go_wp2_with fail
  refine (cIndexBad _ _ _ _ hr).mono ?_
  rintro e w1 ⟨r, rfl, hd, hb⟩
  have HD := Aside0.mk hd; clear hd
  go_wp2
  go_ret
  exact ⟨by rw [← HD.out]; rfl, hb⟩
set_option maxHeartbeats 4000000 in
set_option maxRecDepth 100000 in
theorem cLetOk (A : Option Addr) (c m : Nat) (t : List Node) (n : Node) (cs : List Value) (w : World) (hT : kNodeI.C w A t.length t) (hm : m ≤ t.length) (hk : kNodeI.K w n cs) (hlen : t.length ≤ 1048576) :
    Calls Try.prog 109 #[.slice A m c, .agg ⟨cs⟩] w fun e w' => e = .returned (.bool (n.b == 0 || (n.b == 1 && (inB n.a 0 ((m : Int) - 1) && kindAt t n.a == 13)))) ∧ Below w.heap.size w w' := by
  obtain ⟨A4, c4, A5, c5, rfl, h4, g4, h5, g5⟩ := kNodeI_open hk
  clear hk g4 g5 h4 h5
  have HT := Aside0.mk hT; clear hT
  have hun := Try.underlying142
  have M0 := Aside0.mk ((Mem.start w).allocAt rfl #[.int .i64 n.kind, .int .i64 n.a, .int .i64 n.b, .int .i64 n.c, .slice A4 n.list.length c4, .slice A5 n.names.length c5, .int .u64 n.num, .int .i64 n.at_] 142)
  have zn := M0.out.box (.head _)
  rcases Bool.eq_false_or_eq_true (n.b == 0) with b0 | b0
  · have HF := Aside0.mk (show (n.b == 0 || (n.b == 1 && (inB n.a 0 ((m : Int) - 1) && kindAt t n.a == 13))) = true by simp [b0])
    go_enter Try.func109, Try.ntmps109
    go_wp2
    go_ret
    exact ⟨by rw [HF.out]; rfl, M0.out.below⟩
  rcases Bool.eq_false_or_eq_true (n.b == 1) with b1 | b1
  rotate_left
  · have HF := Aside0.mk (show (n.b == 0 || (n.b == 1 && (inB n.a 0 ((m : Int) - 1) && kindAt t n.a == 13))) = false by simp [b0, b1])
    go_enter Try.func109, Try.ntmps109
    go_wp2
    go_ret
    exact ⟨by rw [HF.out]; rfl, M0.out.below⟩
  rcases Bool.eq_false_or_eq_true (inB n.a 0 ((m : Int) - 1)) with hin | hin
  rotate_left
  · have HF := Aside0.mk (show (n.b == 0 || (n.b == 1 && (inB n.a 0 ((m : Int) - 1) && kindAt t n.a == 13))) = false by simp [b0, b1, hin])
    have HIN := Aside0.mk hin; clear hin
    have B0 := Aside0.mk b0; have B1 := Aside0.mk b1
    go_enter Try.func109, Try.ntmps109
    go_wp2_with fail
    refine (cWithin _ _ _ _).mono ?_; rintro e w1 ⟨rfl, ⟨⟨n1, rfl⟩⟩⟩; rw [HIN.out]
    go_wp2
    go_ret
    exact ⟨by rw [HF.out]; rfl, pw_below_drewN M0.out.below _⟩
  obtain ⟨ja, hja⟩ : ∃ ja : Nat, n.a = ja := ⟨n.a.toNat, by have := of_decide_eq_true hin; omega⟩
  have hjm : ja < m := by have := of_decide_eq_true hin; omega
  obtain ⟨pb, pB4, pd4, pB5, pd5, hpb, qK, qx0, qx1, qx2, qx3, qx4, qx5, qx6, qx7⟩ := NodeI_at (Kd.C_below HT.out M0.out.below) ja (by omega)
  clear qK qx1 qx2 qx3 qx4 qx5 qx6 qx7; cases hpb
  have hna : n.a.toNat = ja := by omega
  have qy0 : _ := hna ▸ qx0
  have hjt2 : n.a < (m : Int) := by omega
  have hjt3 : 0 ≤ n.a := by omega
  have HJA := Aside0.mk hja; have HIN := Aside0.mk hin; clear hja hin
  have B0 := Aside0.mk b0; have B1 := Aside0.mk b1
  rcases Bool.eq_false_or_eq_true ((el zNode t ja).kind == 13) with kk | kk
  · have kk2 : ((el zNode t n.a.toNat).kind == 13) = true := by rw [hna]; exact kk
    have HF := Aside0.mk (show (n.b == 0 || (n.b == 1 && (inB n.a 0 ((m : Int) - 1) && kindAt t n.a == 13))) = true by rw [show (kindAt t n.a == 13) = true by unfold kindAt; exact kk2, HIN.out, B0.out, B1.out]; rfl)
    go_enter Try.func109, Try.ntmps109
    go_wp2_with fail
    refine (cWithin _ _ _ _).mono ?_; rintro e w1 ⟨rfl, ⟨⟨n1, rfl⟩⟩⟩; rw [HIN.out]
    go_wp2
    go_ret
    exact ⟨by rw [HF.out]; rfl, pw_below_drewN M0.out.below _⟩
  · have kk2 : ((el zNode t n.a.toNat).kind == 13) = false := by rw [hna]; exact kk
    have HF := Aside0.mk (show (n.b == 0 || (n.b == 1 && (inB n.a 0 ((m : Int) - 1) && kindAt t n.a == 13))) = false by rw [show (kindAt t n.a == 13) = false by unfold kindAt; exact kk2, HIN.out, B0.out, B1.out]; rfl)
    go_enter Try.func109, Try.ntmps109
    go_wp2_with fail
    refine (cWithin _ _ _ _).mono ?_; rintro e w1 ⟨rfl, ⟨⟨n1, rfl⟩⟩⟩; rw [HIN.out]
    go_wp2
    go_ret
    exact ⟨by rw [HF.out]; rfl, pw_below_drewN M0.out.below _⟩
end Go.Proofs.Ytlhfhfamifmijaa.LeafN
end
section
namespace Go.Proofs.Ytlhfhfamifmijaa.LeafN
open Go.RowKit Go.Proofs.YtlhfhfamifmijaaW.PrintWords Go.Proofs.YtlhfhfamifmijaaW.PrintMore Go.Proofs.Ytlhfhfamifmijaa.Law Go.Proofs.Ytlhfhfamifmijaa.Num Go.Proofs.Ytlhfhfamifmijaa
set_option linter.unusedVariables false
set_option linter.unusedSimpArgs false
set_option autoImplicit false
theorem node_openI {w : World} {n : Node} {cs : List Value} (h : kNodeI.K w n cs) : ∃ A4 c4 A5 c5, cs = [.int .i64 n.kind, .int .i64 n.a, .int .i64 n.b, .int .i64 n.c, .slice A4 n.list.length c4, .slice A5 n.names.length c5, .int .u64 n.num, .int .i64 n.at_] ∧ (Kd.int .i64).C w A4 n.list.length n.list ∧ Kd.string.C w A5 n.names.length n.names := by
  obtain ⟨A4, c4, A5, c5, rfl, h4, g4, h5, g5⟩ := kNodeI_open h
  exact ⟨A4, c4, A5, c5, rfl, g4, g5⟩
/-- Are names, number and list as the kind has them? -/
noncomputable def namesB (n : Node) : Bool :=
  if ¬ n.kind = 1 ∧ ¬ n.num = 0 then false else if (¬ n.kind = 12 ∧ ¬ n.kind = 29) ∧ 0 < n.list.length then false
  else if n.kind = 1 then n.names.length == 0 && numOk n.num
  else if n.kind = 2 then n.names.length == 1 && textOk (el ByteArray.empty n.names 0)
  else if n.kind = 6 ∨ n.kind = 20 ∨ n.kind = 21 ∨ n.kind = 27 then n.names.length == 1 && nameOk (el ByteArray.empty n.names 0)
  else if n.kind = 13 then decide (n.names.length ≤ 4) && n.names.all nameOk else n.names.length == 0
set_option maxHeartbeats 4000000 in
set_option maxRecDepth 100000 in
theorem names_1_1 (n : Node) (cs : List Value) (w : World) (hk : kNodeI.K w n cs) (hnum : 0 ≤ n.num ∧ n.num < 18446744073709551616) (hkind : n.kind = 1) (hl : (0 : Int) < (n.list.length : Int)) : Calls Try.prog 108 #[.agg ⟨cs⟩] w fun e w' => e = .returned (.bool false) ∧ Below w.heap.size w w' := by
  obtain ⟨A4, c4, A5, c5, rfl, g4, g5⟩ := node_openI hk
  have hl4 : n.list.length ≤ 9223372036854775807 := g4.2.1; have hl5 : n.names.length ≤ 9223372036854775807 := g5.2.1
  have e1 : (n.kind == 1) = true := by simp [hkind]
  have m1 : (n.kind != 1) = false := by simp [hkind]
  have e2 : (n.kind == 2) = false := by simp [hkind]
  have m2 : (n.kind != 2) = true := by simp [hkind]
  have e6 : (n.kind == 6) = false := by simp [hkind]
  have m6 : (n.kind != 6) = true := by simp [hkind]
  have e20 : (n.kind == 20) = false := by simp [hkind]
  have m20 : (n.kind != 20) = true := by simp [hkind]
  have e21 : (n.kind == 21) = false := by simp [hkind]
  have m21 : (n.kind != 21) = true := by simp [hkind]
  have e27 : (n.kind == 27) = false := by simp [hkind]
  have m27 : (n.kind != 27) = true := by simp [hkind]
  have e13 : (n.kind == 13) = false := by simp [hkind]
  have m13 : (n.kind != 13) = true := by simp [hkind]
  have e12 : (n.kind == 12) = false := by simp [hkind]
  have m12 : (n.kind != 12) = true := by simp [hkind]
  have e29 : (n.kind == 29) = false := by simp [hkind]
  have m29 : (n.kind != 29) = true := by simp [hkind]
  clear hk hkind
  have G5 := Aside0.mk g5; clear g4 g5; have HNUM := Aside0.mk hnum; clear hnum
  have M0 := Aside0.mk ((Mem.start w).allocAt rfl #[.int .i64 n.kind, .int .i64 n.a, .int .i64 n.b, .int .i64 n.c, .slice A4 n.list.length c4, .slice A5 n.names.length c5, .int .u64 n.num, .int .i64 n.at_] 142)
  have zn := M0.out.box (.head _)
  have hun := Try.underlying142
  go_enter Try.func108, Try.ntmps108
  go_wp2
  go_ret
  exact ⟨by first | rfl | simp [*], by first | exact M0.out.below | exact pw_below_drewN M0.out.below _⟩
set_option maxHeartbeats 4000000 in
set_option maxRecDepth 100000 in
theorem names_1_2 (n : Node) (cs : List Value) (w : World) (hk : kNodeI.K w n cs) (hnum : 0 ≤ n.num ∧ n.num < 18446744073709551616) (hkind : n.kind = 1) (hl : ¬ (0 : Int) < (n.list.length : Int)) (hn : ((n.names.length : Int) == 0) = false) : Calls Try.prog 108 #[.agg ⟨cs⟩] w fun e w' => e = .returned (.bool false) ∧ Below w.heap.size w w' := by
  obtain ⟨A4, c4, A5, c5, rfl, g4, g5⟩ := node_openI hk
  have hl4 : n.list.length ≤ 9223372036854775807 := g4.2.1; have hl5 : n.names.length ≤ 9223372036854775807 := g5.2.1
  have e1 : (n.kind == 1) = true := by simp [hkind]
  have m1 : (n.kind != 1) = false := by simp [hkind]
  have e2 : (n.kind == 2) = false := by simp [hkind]
  have m2 : (n.kind != 2) = true := by simp [hkind]
  have e6 : (n.kind == 6) = false := by simp [hkind]
  have m6 : (n.kind != 6) = true := by simp [hkind]
  have e20 : (n.kind == 20) = false := by simp [hkind]
  have m20 : (n.kind != 20) = true := by simp [hkind]
  have e21 : (n.kind == 21) = false := by simp [hkind]
  have m21 : (n.kind != 21) = true := by simp [hkind]
  have e27 : (n.kind == 27) = false := by simp [hkind]
  have m27 : (n.kind != 27) = true := by simp [hkind]
  have e13 : (n.kind == 13) = false := by simp [hkind]
  have m13 : (n.kind != 13) = true := by simp [hkind]
  have e12 : (n.kind == 12) = false := by simp [hkind]
  have m12 : (n.kind != 12) = true := by simp [hkind]
  have e29 : (n.kind == 29) = false := by simp [hkind]
  have m29 : (n.kind != 29) = true := by simp [hkind]
  clear hk hkind
  have G5 := Aside0.mk g5; clear g4 g5; have HNUM := Aside0.mk hnum; clear hnum
  have M0 := Aside0.mk ((Mem.start w).allocAt rfl #[.int .i64 n.kind, .int .i64 n.a, .int .i64 n.b, .int .i64 n.c, .slice A4 n.list.length c4, .slice A5 n.names.length c5, .int .u64 n.num, .int .i64 n.at_] 142)
  have zn := M0.out.box (.head _)
  have hun := Try.underlying142
  go_enter Try.func108, Try.ntmps108
  go_wp2
  go_ret
  exact ⟨by first | rfl | simp [*], by first | exact M0.out.below | exact pw_below_drewN M0.out.below _⟩
set_option maxHeartbeats 4000000 in
set_option maxRecDepth 100000 in
theorem names_1_3 (n : Node) (cs : List Value) (w : World) (hk : kNodeI.K w n cs) (hnum : 0 ≤ n.num ∧ n.num < 18446744073709551616) (hkind : n.kind = 1) (hl : ¬ (0 : Int) < (n.list.length : Int)) (hn : ((n.names.length : Int) == 0) = true) (hf : finB n.num = false) : Calls Try.prog 108 #[.agg ⟨cs⟩] w fun e w' => e = .returned (.bool false) ∧ Below w.heap.size w w' := by
  obtain ⟨A4, c4, A5, c5, rfl, g4, g5⟩ := node_openI hk
  have hl4 : n.list.length ≤ 9223372036854775807 := g4.2.1; have hl5 : n.names.length ≤ 9223372036854775807 := g5.2.1
  have e1 : (n.kind == 1) = true := by simp [hkind]
  have m1 : (n.kind != 1) = false := by simp [hkind]
  have e2 : (n.kind == 2) = false := by simp [hkind]
  have m2 : (n.kind != 2) = true := by simp [hkind]
  have e6 : (n.kind == 6) = false := by simp [hkind]
  have m6 : (n.kind != 6) = true := by simp [hkind]
  have e20 : (n.kind == 20) = false := by simp [hkind]
  have m20 : (n.kind != 20) = true := by simp [hkind]
  have e21 : (n.kind == 21) = false := by simp [hkind]
  have m21 : (n.kind != 21) = true := by simp [hkind]
  have e27 : (n.kind == 27) = false := by simp [hkind]
  have m27 : (n.kind != 27) = true := by simp [hkind]
  have e13 : (n.kind == 13) = false := by simp [hkind]
  have m13 : (n.kind != 13) = true := by simp [hkind]
  have e12 : (n.kind == 12) = false := by simp [hkind]
  have m12 : (n.kind != 12) = true := by simp [hkind]
  have e29 : (n.kind == 29) = false := by simp [hkind]
  have m29 : (n.kind != 29) = true := by simp [hkind]
  clear hk hkind
  have G5 := Aside0.mk g5; clear g4 g5; have HNUM := Aside0.mk hnum; clear hnum
  have M0 := Aside0.mk ((Mem.start w).allocAt rfl #[.int .i64 n.kind, .int .i64 n.a, .int .i64 n.b, .int .i64 n.c, .slice A4 n.list.length c4, .slice A5 n.names.length c5, .int .u64 n.num, .int .i64 n.at_] 142)
  have zn := M0.out.box (.head _)
  have hun := Try.underlying142
  have HF := Aside0.mk hf; clear hf
  go_enter Try.func108, Try.ntmps108
  go_wp2_with fail
  refine (cFinite _ _).mono ?_; rintro e w1 ⟨rfl, ⟨⟨n1, rfl⟩⟩⟩; rw [HF.out]
  go_wp2
  go_ret
  exact ⟨by first | rfl | simp [*], by first | exact M0.out.below | exact pw_below_drewN M0.out.below _⟩
set_option maxHeartbeats 4000000 in
set_option maxRecDepth 100000 in
theorem names_1_4 (n : Node) (cs : List Value) (w : World) (hk : kNodeI.K w n cs) (hnum : 0 ≤ n.num ∧ n.num < 18446744073709551616) (hkind : n.kind = 1) (hl : ¬ (0 : Int) < (n.list.length : Int)) (hn : ((n.names.length : Int) == 0) = true) (hf : finB n.num = true) : Calls Try.prog 108 #[.agg ⟨cs⟩] w fun e w' => e = .returned (.bool (n.num / 9223372036854775808 == 0)) ∧ Below w.heap.size w w' := by
  obtain ⟨A4, c4, A5, c5, rfl, g4, g5⟩ := node_openI hk
  have hl4 : n.list.length ≤ 9223372036854775807 := g4.2.1; have hl5 : n.names.length ≤ 9223372036854775807 := g5.2.1
  have e1 : (n.kind == 1) = true := by simp [hkind]
  have m1 : (n.kind != 1) = false := by simp [hkind]
  have e2 : (n.kind == 2) = false := by simp [hkind]
  have m2 : (n.kind != 2) = true := by simp [hkind]
  have e6 : (n.kind == 6) = false := by simp [hkind]
  have m6 : (n.kind != 6) = true := by simp [hkind]
  have e20 : (n.kind == 20) = false := by simp [hkind]
  have m20 : (n.kind != 20) = true := by simp [hkind]
  have e21 : (n.kind == 21) = false := by simp [hkind]
  have m21 : (n.kind != 21) = true := by simp [hkind]
  have e27 : (n.kind == 27) = false := by simp [hkind]
  have m27 : (n.kind != 27) = true := by simp [hkind]
  have e13 : (n.kind == 13) = false := by simp [hkind]
  have m13 : (n.kind != 13) = true := by simp [hkind]
  have e12 : (n.kind == 12) = false := by simp [hkind]
  have m12 : (n.kind != 12) = true := by simp [hkind]
  have e29 : (n.kind == 29) = false := by simp [hkind]
  have m29 : (n.kind != 29) = true := by simp [hkind]
  clear hk hkind
  have G5 := Aside0.mk g5; clear g4 g5; have HNUM := Aside0.mk hnum; clear hnum
  have M0 := Aside0.mk ((Mem.start w).allocAt rfl #[.int .i64 n.kind, .int .i64 n.a, .int .i64 n.b, .int .i64 n.c, .slice A4 n.list.length c4, .slice A5 n.names.length c5, .int .u64 n.num, .int .i64 n.at_] 142)
  have zn := M0.out.box (.head _)
  have hun := Try.underlying142
  have HF := Aside0.mk hf; clear hf
  go_enter Try.func108, Try.ntmps108
  go_wp2_with fail
  refine (cFinite _ _).mono ?_; rintro e w1 ⟨rfl, ⟨⟨n1, rfl⟩⟩⟩; rw [HF.out]
  go_wp2
  go_ret
  exact ⟨by first | rfl | simp [*], by first | exact M0.out.below | exact pw_below_drewN M0.out.below _⟩
set_option maxHeartbeats 4000000 in
set_option maxRecDepth 100000 in
theorem names_2_0 (n : Node) (cs : List Value) (w : World) (hk : kNodeI.K w n cs) (hnum : 0 ≤ n.num ∧ n.num < 18446744073709551616) (hkind : n.kind = 2) (hz : (n.num == 0) = false) : Calls Try.prog 108 #[.agg ⟨cs⟩] w fun e w' => e = .returned (.bool false) ∧ Below w.heap.size w w' := by
  obtain ⟨A4, c4, A5, c5, rfl, g4, g5⟩ := node_openI hk
  have hl4 : n.list.length ≤ 9223372036854775807 := g4.2.1; have hl5 : n.names.length ≤ 9223372036854775807 := g5.2.1
  have e1 : (n.kind == 1) = false := by simp [hkind]
  have m1 : (n.kind != 1) = true := by simp [hkind]
  have e2 : (n.kind == 2) = true := by simp [hkind]
  have m2 : (n.kind != 2) = false := by simp [hkind]
  have e6 : (n.kind == 6) = false := by simp [hkind]
  have m6 : (n.kind != 6) = true := by simp [hkind]
  have e20 : (n.kind == 20) = false := by simp [hkind]
  have m20 : (n.kind != 20) = true := by simp [hkind]
  have e21 : (n.kind == 21) = false := by simp [hkind]
  have m21 : (n.kind != 21) = true := by simp [hkind]
  have e27 : (n.kind == 27) = false := by simp [hkind]
  have m27 : (n.kind != 27) = true := by simp [hkind]
  have e13 : (n.kind == 13) = false := by simp [hkind]
  have m13 : (n.kind != 13) = true := by simp [hkind]
  have e12 : (n.kind == 12) = false := by simp [hkind]
  have m12 : (n.kind != 12) = true := by simp [hkind]
  have e29 : (n.kind == 29) = false := by simp [hkind]
  have m29 : (n.kind != 29) = true := by simp [hkind]
  have hz2 : (n.num != 0) = true := by simp [bne, hz]
  clear hk hkind
  have G5 := Aside0.mk g5; clear g4 g5; have HNUM := Aside0.mk hnum; clear hnum
  have M0 := Aside0.mk ((Mem.start w).allocAt rfl #[.int .i64 n.kind, .int .i64 n.a, .int .i64 n.b, .int .i64 n.c, .slice A4 n.list.length c4, .slice A5 n.names.length c5, .int .u64 n.num, .int .i64 n.at_] 142)
  have zn := M0.out.box (.head _)
  have hun := Try.underlying142
  go_enter Try.func108, Try.ntmps108
  go_wp2
  go_ret
  exact ⟨by first | rfl | simp [*], by first | exact M0.out.below | exact pw_below_drewN M0.out.below _⟩
set_option maxHeartbeats 4000000 in
set_option maxRecDepth 100000 in
theorem names_2_1 (n : Node) (cs : List Value) (w : World) (hk : kNodeI.K w n cs) (hnum : 0 ≤ n.num ∧ n.num < 18446744073709551616) (hkind : n.kind = 2) (hz : (n.num == 0) = true) (hl : (0 : Int) < (n.list.length : Int)) : Calls Try.prog 108 #[.agg ⟨cs⟩] w fun e w' => e = .returned (.bool false) ∧ Below w.heap.size w w' := by
  obtain ⟨A4, c4, A5, c5, rfl, g4, g5⟩ := node_openI hk
  have hl4 : n.list.length ≤ 9223372036854775807 := g4.2.1; have hl5 : n.names.length ≤ 9223372036854775807 := g5.2.1
  have e1 : (n.kind == 1) = false := by simp [hkind]
  have m1 : (n.kind != 1) = true := by simp [hkind]
  have e2 : (n.kind == 2) = true := by simp [hkind]
  have m2 : (n.kind != 2) = false := by simp [hkind]
  have e6 : (n.kind == 6) = false := by simp [hkind]
  have m6 : (n.kind != 6) = true := by simp [hkind]
  have e20 : (n.kind == 20) = false := by simp [hkind]
  have m20 : (n.kind != 20) = true := by simp [hkind]
  have e21 : (n.kind == 21) = false := by simp [hkind]
  have m21 : (n.kind != 21) = true := by simp [hkind]
  have e27 : (n.kind == 27) = false := by simp [hkind]
  have m27 : (n.kind != 27) = true := by simp [hkind]
  have e13 : (n.kind == 13) = false := by simp [hkind]
  have m13 : (n.kind != 13) = true := by simp [hkind]
  have e12 : (n.kind == 12) = false := by simp [hkind]
  have m12 : (n.kind != 12) = true := by simp [hkind]
  have e29 : (n.kind == 29) = false := by simp [hkind]
  have m29 : (n.kind != 29) = true := by simp [hkind]
  have hz2 : (n.num != 0) = false := by simp [bne, hz]
  clear hk hkind
  have G5 := Aside0.mk g5; clear g4 g5; have HNUM := Aside0.mk hnum; clear hnum
  have M0 := Aside0.mk ((Mem.start w).allocAt rfl #[.int .i64 n.kind, .int .i64 n.a, .int .i64 n.b, .int .i64 n.c, .slice A4 n.list.length c4, .slice A5 n.names.length c5, .int .u64 n.num, .int .i64 n.at_] 142)
  have zn := M0.out.box (.head _)
  have hun := Try.underlying142
  go_enter Try.func108, Try.ntmps108
  go_wp2
  go_ret
  exact ⟨by first | rfl | simp [*], by first | exact M0.out.below | exact pw_below_drewN M0.out.below _⟩
set_option maxHeartbeats 4000000 in
set_option maxRecDepth 100000 in
theorem names_2_2 (n : Node) (cs : List Value) (w : World) (hk : kNodeI.K w n cs) (hnum : 0 ≤ n.num ∧ n.num < 18446744073709551616) (hkind : n.kind = 2) (hz : (n.num == 0) = true) (hl : ¬ (0 : Int) < (n.list.length : Int)) (hn : ((n.names.length : Int) == 1) = false) : Calls Try.prog 108 #[.agg ⟨cs⟩] w fun e w' => e = .returned (.bool false) ∧ Below w.heap.size w w' := by
  obtain ⟨A4, c4, A5, c5, rfl, g4, g5⟩ := node_openI hk
  have hl4 : n.list.length ≤ 9223372036854775807 := g4.2.1; have hl5 : n.names.length ≤ 9223372036854775807 := g5.2.1
  have e1 : (n.kind == 1) = false := by simp [hkind]
  have m1 : (n.kind != 1) = true := by simp [hkind]
  have e2 : (n.kind == 2) = true := by simp [hkind]
  have m2 : (n.kind != 2) = false := by simp [hkind]
  have e6 : (n.kind == 6) = false := by simp [hkind]
  have m6 : (n.kind != 6) = true := by simp [hkind]
  have e20 : (n.kind == 20) = false := by simp [hkind]
  have m20 : (n.kind != 20) = true := by simp [hkind]
  have e21 : (n.kind == 21) = false := by simp [hkind]
  have m21 : (n.kind != 21) = true := by simp [hkind]
  have e27 : (n.kind == 27) = false := by simp [hkind]
  have m27 : (n.kind != 27) = true := by simp [hkind]
  have e13 : (n.kind == 13) = false := by simp [hkind]
  have m13 : (n.kind != 13) = true := by simp [hkind]
  have e12 : (n.kind == 12) = false := by simp [hkind]
  have m12 : (n.kind != 12) = true := by simp [hkind]
  have e29 : (n.kind == 29) = false := by simp [hkind]
  have m29 : (n.kind != 29) = true := by simp [hkind]
  have hz2 : (n.num != 0) = false := by simp [bne, hz]
  clear hk hkind
  have G5 := Aside0.mk g5; clear g4 g5; have HNUM := Aside0.mk hnum; clear hnum
  have M0 := Aside0.mk ((Mem.start w).allocAt rfl #[.int .i64 n.kind, .int .i64 n.a, .int .i64 n.b, .int .i64 n.c, .slice A4 n.list.length c4, .slice A5 n.names.length c5, .int .u64 n.num, .int .i64 n.at_] 142)
  have zn := M0.out.box (.head _)
  have hun := Try.underlying142
  go_enter Try.func108, Try.ntmps108
  go_wp2
  go_ret
  exact ⟨by first | rfl | simp [*], by first | exact M0.out.below | exact pw_below_drewN M0.out.below _⟩
set_option maxHeartbeats 4000000 in
set_option maxRecDepth 100000 in
theorem names_2_3 (n : Node) (cs : List Value) (w : World) (hk : kNodeI.K w n cs) (hnum : 0 ≤ n.num ∧ n.num < 18446744073709551616) (hkind : n.kind = 2) (hz : (n.num == 0) = true) (hl : ¬ (0 : Int) < (n.list.length : Int)) (hn : ((n.names.length : Int) == 1) = true) : Calls Try.prog 108 #[.agg ⟨cs⟩] w fun e w' => e = .returned (.bool (textOk (el ByteArray.empty n.names 0))) ∧ Below w.heap.size w w' := by
  obtain ⟨A4, c4, A5, c5, rfl, g4, g5⟩ := node_openI hk
  have hl4 : n.list.length ≤ 9223372036854775807 := g4.2.1; have hl5 : n.names.length ≤ 9223372036854775807 := g5.2.1
  have e1 : (n.kind == 1) = false := by simp [hkind]
  have m1 : (n.kind != 1) = true := by simp [hkind]
  have e2 : (n.kind == 2) = true := by simp [hkind]
  have m2 : (n.kind != 2) = false := by simp [hkind]
  have e6 : (n.kind == 6) = false := by simp [hkind]
  have m6 : (n.kind != 6) = true := by simp [hkind]
  have e20 : (n.kind == 20) = false := by simp [hkind]
  have m20 : (n.kind != 20) = true := by simp [hkind]
  have e21 : (n.kind == 21) = false := by simp [hkind]
  have m21 : (n.kind != 21) = true := by simp [hkind]
  have e27 : (n.kind == 27) = false := by simp [hkind]
  have m27 : (n.kind != 27) = true := by simp [hkind]
  have e13 : (n.kind == 13) = false := by simp [hkind]
  have m13 : (n.kind != 13) = true := by simp [hkind]
  have e12 : (n.kind == 12) = false := by simp [hkind]
  have m12 : (n.kind != 12) = true := by simp [hkind]
  have e29 : (n.kind == 29) = false := by simp [hkind]
  have m29 : (n.kind != 29) = true := by simp [hkind]
  have hz2 : (n.num != 0) = false := by simp [bne, hz]
  clear hk hkind
  have G5 := Aside0.mk g5; clear g4 g5; have HNUM := Aside0.mk hnum; clear hnum
  have M0 := Aside0.mk ((Mem.start w).allocAt rfl #[.int .i64 n.kind, .int .i64 n.a, .int .i64 n.b, .int .i64 n.c, .slice A4 n.list.length c4, .slice A5 n.names.length c5, .int .u64 n.num, .int .i64 n.at_] 142)
  have zn := M0.out.box (.head _)
  have hun := Try.underlying142
  have hlen1 : 0 < n.names.length := by have : (n.names.length : Int) = 1 := by simpa using hn
                                        omega
  obtain ⟨pa, rfl, hxa⟩ := string_at G5.out 0 hlen1
  have hi : (0 : Int) < (n.names.length : Int) := by omega
  have hxb : w.cell? pa = _ := (show pa.add 0 = pa by cases pa; rfl) ▸ hxa
  have hxc := pw_cell_below M0.out.below hxa; have hxd := pw_cell_below M0.out.below hxb
  go_enter Try.func108, Try.ntmps108
  go_wp2_with fail
  refine (cQuoted _ _).mono ?_; rintro e w1 ⟨rfl, hb⟩
  have M1 := Aside0.mk (M0.out.step hb); clear hb
  go_wp2
  go_ret
  exact ⟨rfl, M1.out.below⟩
set_option maxHeartbeats 4000000 in
set_option maxRecDepth 100000 in
theorem names_6_0 (n : Node) (cs : List Value) (w : World) (hk : kNodeI.K w n cs) (hnum : 0 ≤ n.num ∧ n.num < 18446744073709551616) (hkind : n.kind = 6) (hz : (n.num == 0) = false) : Calls Try.prog 108 #[.agg ⟨cs⟩] w fun e w' => e = .returned (.bool false) ∧ Below w.heap.size w w' := by
  obtain ⟨A4, c4, A5, c5, rfl, g4, g5⟩ := node_openI hk
  have hl4 : n.list.length ≤ 9223372036854775807 := g4.2.1; have hl5 : n.names.length ≤ 9223372036854775807 := g5.2.1
  have e1 : (n.kind == 1) = false := by simp [hkind]
  have m1 : (n.kind != 1) = true := by simp [hkind]
  have e2 : (n.kind == 2) = false := by simp [hkind]
  have m2 : (n.kind != 2) = true := by simp [hkind]
  have e6 : (n.kind == 6) = true := by simp [hkind]
  have m6 : (n.kind != 6) = false := by simp [hkind]
  have e20 : (n.kind == 20) = false := by simp [hkind]
  have m20 : (n.kind != 20) = true := by simp [hkind]
  have e21 : (n.kind == 21) = false := by simp [hkind]
  have m21 : (n.kind != 21) = true := by simp [hkind]
  have e27 : (n.kind == 27) = false := by simp [hkind]
  have m27 : (n.kind != 27) = true := by simp [hkind]
  have e13 : (n.kind == 13) = false := by simp [hkind]
  have m13 : (n.kind != 13) = true := by simp [hkind]
  have e12 : (n.kind == 12) = false := by simp [hkind]
  have m12 : (n.kind != 12) = true := by simp [hkind]
  have e29 : (n.kind == 29) = false := by simp [hkind]
  have m29 : (n.kind != 29) = true := by simp [hkind]
  have hz2 : (n.num != 0) = true := by simp [bne, hz]
  clear hk hkind
  have G5 := Aside0.mk g5; clear g4 g5; have HNUM := Aside0.mk hnum; clear hnum
  have M0 := Aside0.mk ((Mem.start w).allocAt rfl #[.int .i64 n.kind, .int .i64 n.a, .int .i64 n.b, .int .i64 n.c, .slice A4 n.list.length c4, .slice A5 n.names.length c5, .int .u64 n.num, .int .i64 n.at_] 142)
  have zn := M0.out.box (.head _)
  have hun := Try.underlying142
  go_enter Try.func108, Try.ntmps108
  go_wp2
  go_ret
  exact ⟨by first | rfl | simp [*], by first | exact M0.out.below | exact pw_below_drewN M0.out.below _⟩
set_option maxHeartbeats 4000000 in
set_option maxRecDepth 100000 in
theorem names_6_1 (n : Node) (cs : List Value) (w : World) (hk : kNodeI.K w n cs) (hnum : 0 ≤ n.num ∧ n.num < 18446744073709551616) (hkind : n.kind = 6) (hz : (n.num == 0) = true) (hl : (0 : Int) < (n.list.length : Int)) : Calls Try.prog 108 #[.agg ⟨cs⟩] w fun e w' => e = .returned (.bool false) ∧ Below w.heap.size w w' := by
  obtain ⟨A4, c4, A5, c5, rfl, g4, g5⟩ := node_openI hk
  have hl4 : n.list.length ≤ 9223372036854775807 := g4.2.1; have hl5 : n.names.length ≤ 9223372036854775807 := g5.2.1
  have e1 : (n.kind == 1) = false := by simp [hkind]
  have m1 : (n.kind != 1) = true := by simp [hkind]
  have e2 : (n.kind == 2) = false := by simp [hkind]
  have m2 : (n.kind != 2) = true := by simp [hkind]
  have e6 : (n.kind == 6) = true := by simp [hkind]
  have m6 : (n.kind != 6) = false := by simp [hkind]
  have e20 : (n.kind == 20) = false := by simp [hkind]
  have m20 : (n.kind != 20) = true := by simp [hkind]
  have e21 : (n.kind == 21) = false := by simp [hkind]
  have m21 : (n.kind != 21) = true := by simp [hkind]
  have e27 : (n.kind == 27) = false := by simp [hkind]
  have m27 : (n.kind != 27) = true := by simp [hkind]
  have e13 : (n.kind == 13) = false := by simp [hkind]
  have m13 : (n.kind != 13) = true := by simp [hkind]
  have e12 : (n.kind == 12) = false := by simp [hkind]
  have m12 : (n.kind != 12) = true := by simp [hkind]
  have e29 : (n.kind == 29) = false := by simp [hkind]
  have m29 : (n.kind != 29) = true := by simp [hkind]
  have hz2 : (n.num != 0) = false := by simp [bne, hz]
  clear hk hkind
  have G5 := Aside0.mk g5; clear g4 g5; have HNUM := Aside0.mk hnum; clear hnum
  have M0 := Aside0.mk ((Mem.start w).allocAt rfl #[.int .i64 n.kind, .int .i64 n.a, .int .i64 n.b, .int .i64 n.c, .slice A4 n.list.length c4, .slice A5 n.names.length c5, .int .u64 n.num, .int .i64 n.at_] 142)
  have zn := M0.out.box (.head _)
  have hun := Try.underlying142
  go_enter Try.func108, Try.ntmps108
  go_wp2
  go_ret
  exact ⟨by first | rfl | simp [*], by first | exact M0.out.below | exact pw_below_drewN M0.out.below _⟩
set_option maxHeartbeats 4000000 in
set_option maxRecDepth 100000 in
theorem names_6_2 (n : Node) (cs : List Value) (w : World) (hk : kNodeI.K w n cs) (hnum : 0 ≤ n.num ∧ n.num < 18446744073709551616) (hkind : n.kind = 6) (hz : (n.num == 0) = true) (hl : ¬ (0 : Int) < (n.list.length : Int)) (hn : ((n.names.length : Int) == 1) = false) : Calls Try.prog 108 #[.agg ⟨cs⟩] w fun e w' => e = .returned (.bool false) ∧ Below w.heap.size w w' := by
  obtain ⟨A4, c4, A5, c5, rfl, g4, g5⟩ := node_openI hk
  have hl4 : n.list.length ≤ 9223372036854775807 := g4.2.1; have hl5 : n.names.length ≤ 9223372036854775807 := g5.2.1
  have e1 : (n.kind == 1) = false := by simp [hkind]
  have m1 : (n.kind != 1) = true := by simp [hkind]
  have e2 : (n.kind == 2) = false := by simp [hkind]
  have m2 : (n.kind != 2) = true := by simp [hkind]
  have e6 : (n.kind == 6) = true := by simp [hkind]
  have m6 : (n.kind != 6) = false := by simp [hkind]
  have e20 : (n.kind == 20) = false := by simp [hkind]
  have m20 : (n.kind != 20) = true := by simp [hkind]
  have e21 : (n.kind == 21) = false := by simp [hkind]
  have m21 : (n.kind != 21) = true := by simp [hkind]
  have e27 : (n.kind == 27) = false := by simp [hkind]
  have m27 : (n.kind != 27) = true := by simp [hkind]
  have e13 : (n.kind == 13) = false := by simp [hkind]
  have m13 : (n.kind != 13) = true := by simp [hkind]
  have e12 : (n.kind == 12) = false := by simp [hkind]
  have m12 : (n.kind != 12) = true := by simp [hkind]
  have e29 : (n.kind == 29) = false := by simp [hkind]
  have m29 : (n.kind != 29) = true := by simp [hkind]
  have hz2 : (n.num != 0) = false := by simp [bne, hz]
  clear hk hkind
  have G5 := Aside0.mk g5; clear g4 g5; have HNUM := Aside0.mk hnum; clear hnum
  have M0 := Aside0.mk ((Mem.start w).allocAt rfl #[.int .i64 n.kind, .int .i64 n.a, .int .i64 n.b, .int .i64 n.c, .slice A4 n.list.length c4, .slice A5 n.names.length c5, .int .u64 n.num, .int .i64 n.at_] 142)
  have zn := M0.out.box (.head _)
  have hun := Try.underlying142
  go_enter Try.func108, Try.ntmps108
  go_wp2
  go_ret
  exact ⟨by first | rfl | simp [*], by first | exact M0.out.below | exact pw_below_drewN M0.out.below _⟩
set_option maxHeartbeats 4000000 in
set_option maxRecDepth 100000 in
theorem names_6_3 (n : Node) (cs : List Value) (w : World) (hk : kNodeI.K w n cs) (hnum : 0 ≤ n.num ∧ n.num < 18446744073709551616) (hkind : n.kind = 6) (hz : (n.num == 0) = true) (hl : ¬ (0 : Int) < (n.list.length : Int)) (hn : ((n.names.length : Int) == 1) = true) : Calls Try.prog 108 #[.agg ⟨cs⟩] w fun e w' => e = .returned (.bool (nameOk (el ByteArray.empty n.names 0))) ∧ Below w.heap.size w w' := by
  obtain ⟨A4, c4, A5, c5, rfl, g4, g5⟩ := node_openI hk
  have hl4 : n.list.length ≤ 9223372036854775807 := g4.2.1; have hl5 : n.names.length ≤ 9223372036854775807 := g5.2.1
  have e1 : (n.kind == 1) = false := by simp [hkind]
  have m1 : (n.kind != 1) = true := by simp [hkind]
  have e2 : (n.kind == 2) = false := by simp [hkind]
  have m2 : (n.kind != 2) = true := by simp [hkind]
  have e6 : (n.kind == 6) = true := by simp [hkind]
  have m6 : (n.kind != 6) = false := by simp [hkind]
  have e20 : (n.kind == 20) = false := by simp [hkind]
  have m20 : (n.kind != 20) = true := by simp [hkind]
  have e21 : (n.kind == 21) = false := by simp [hkind]
  have m21 : (n.kind != 21) = true := by simp [hkind]
  have e27 : (n.kind == 27) = false := by simp [hkind]
  have m27 : (n.kind != 27) = true := by simp [hkind]
  have e13 : (n.kind == 13) = false := by simp [hkind]
  have m13 : (n.kind != 13) = true := by simp [hkind]
  have e12 : (n.kind == 12) = false := by simp [hkind]
  have m12 : (n.kind != 12) = true := by simp [hkind]
  have e29 : (n.kind == 29) = false := by simp [hkind]
  have m29 : (n.kind != 29) = true := by simp [hkind]
  have hz2 : (n.num != 0) = false := by simp [bne, hz]
  clear hk hkind
  have G5 := Aside0.mk g5; clear g4 g5; have HNUM := Aside0.mk hnum; clear hnum
  have M0 := Aside0.mk ((Mem.start w).allocAt rfl #[.int .i64 n.kind, .int .i64 n.a, .int .i64 n.b, .int .i64 n.c, .slice A4 n.list.length c4, .slice A5 n.names.length c5, .int .u64 n.num, .int .i64 n.at_] 142)
  have zn := M0.out.box (.head _)
  have hun := Try.underlying142
  have hlen1 : 0 < n.names.length := by have : (n.names.length : Int) = 1 := by simpa using hn
                                        omega
  obtain ⟨pa, rfl, hxa⟩ := string_at G5.out 0 hlen1
  have hi : (0 : Int) < (n.names.length : Int) := by omega
  have hxb : w.cell? pa = _ := (show pa.add 0 = pa by cases pa; rfl) ▸ hxa
  have hxc := pw_cell_below M0.out.below hxa; have hxd := pw_cell_below M0.out.below hxb
  go_enter Try.func108, Try.ntmps108
  go_wp2_with fail
  refine (cImplName _ _).mono ?_; rintro e w1 ⟨rfl, hb⟩
  have M1 := Aside0.mk (M0.out.step hb); clear hb
  go_wp2
  go_ret
  exact ⟨rfl, M1.out.below⟩
set_option maxHeartbeats 4000000 in
set_option maxRecDepth 100000 in
theorem names_20_0 (n : Node) (cs : List Value) (w : World) (hk : kNodeI.K w n cs) (hnum : 0 ≤ n.num ∧ n.num < 18446744073709551616) (hkind : n.kind = 20) (hz : (n.num == 0) = false) : Calls Try.prog 108 #[.agg ⟨cs⟩] w fun e w' => e = .returned (.bool false) ∧ Below w.heap.size w w' := by
  obtain ⟨A4, c4, A5, c5, rfl, g4, g5⟩ := node_openI hk
  have hl4 : n.list.length ≤ 9223372036854775807 := g4.2.1; have hl5 : n.names.length ≤ 9223372036854775807 := g5.2.1
  have e1 : (n.kind == 1) = false := by simp [hkind]
  have m1 : (n.kind != 1) = true := by simp [hkind]
  have e2 : (n.kind == 2) = false := by simp [hkind]
  have m2 : (n.kind != 2) = true := by simp [hkind]
  have e6 : (n.kind == 6) = false := by simp [hkind]
  have m6 : (n.kind != 6) = true := by simp [hkind]
  have e20 : (n.kind == 20) = true := by simp [hkind]
  have m20 : (n.kind != 20) = false := by simp [hkind]
  have e21 : (n.kind == 21) = false := by simp [hkind]
  have m21 : (n.kind != 21) = true := by simp [hkind]
  have e27 : (n.kind == 27) = false := by simp [hkind]
  have m27 : (n.kind != 27) = true := by simp [hkind]
  have e13 : (n.kind == 13) = false := by simp [hkind]
  have m13 : (n.kind != 13) = true := by simp [hkind]
  have e12 : (n.kind == 12) = false := by simp [hkind]
  have m12 : (n.kind != 12) = true := by simp [hkind]
  have e29 : (n.kind == 29) = false := by simp [hkind]
  have m29 : (n.kind != 29) = true := by simp [hkind]
  have hz2 : (n.num != 0) = true := by simp [bne, hz]
  clear hk hkind
  have G5 := Aside0.mk g5; clear g4 g5; have HNUM := Aside0.mk hnum; clear hnum
  have M0 := Aside0.mk ((Mem.start w).allocAt rfl #[.int .i64 n.kind, .int .i64 n.a, .int .i64 n.b, .int .i64 n.c, .slice A4 n.list.length c4, .slice A5 n.names.length c5, .int .u64 n.num, .int .i64 n.at_] 142)
  have zn := M0.out.box (.head _)
  have hun := Try.underlying142
  go_enter Try.func108, Try.ntmps108
  go_wp2
  go_ret
  exact ⟨by first | rfl | simp [*], by first | exact M0.out.below | exact pw_below_drewN M0.out.below _⟩
set_option maxHeartbeats 4000000 in
set_option maxRecDepth 100000 in
theorem names_20_1 (n : Node) (cs : List Value) (w : World) (hk : kNodeI.K w n cs) (hnum : 0 ≤ n.num ∧ n.num < 18446744073709551616) (hkind : n.kind = 20) (hz : (n.num == 0) = true) (hl : (0 : Int) < (n.list.length : Int)) : Calls Try.prog 108 #[.agg ⟨cs⟩] w fun e w' => e = .returned (.bool false) ∧ Below w.heap.size w w' := by
  obtain ⟨A4, c4, A5, c5, rfl, g4, g5⟩ := node_openI hk
  have hl4 : n.list.length ≤ 9223372036854775807 := g4.2.1; have hl5 : n.names.length ≤ 9223372036854775807 := g5.2.1
  have e1 : (n.kind == 1) = false := by simp [hkind]
  have m1 : (n.kind != 1) = true := by simp [hkind]
  have e2 : (n.kind == 2) = false := by simp [hkind]
  have m2 : (n.kind != 2) = true := by simp [hkind]
  have e6 : (n.kind == 6) = false := by simp [hkind]
  have m6 : (n.kind != 6) = true := by simp [hkind]
  have e20 : (n.kind == 20) = true := by simp [hkind]
  have m20 : (n.kind != 20) = false := by simp [hkind]
  have e21 : (n.kind == 21) = false := by simp [hkind]
  have m21 : (n.kind != 21) = true := by simp [hkind]
  have e27 : (n.kind == 27) = false := by simp [hkind]
  have m27 : (n.kind != 27) = true := by simp [hkind]
  have e13 : (n.kind == 13) = false := by simp [hkind]
  have m13 : (n.kind != 13) = true := by simp [hkind]
  have e12 : (n.kind == 12) = false := by simp [hkind]
  have m12 : (n.kind != 12) = true := by simp [hkind]
  have e29 : (n.kind == 29) = false := by simp [hkind]
  have m29 : (n.kind != 29) = true := by simp [hkind]
  have hz2 : (n.num != 0) = false := by simp [bne, hz]
  clear hk hkind
  have G5 := Aside0.mk g5; clear g4 g5; have HNUM := Aside0.mk hnum; clear hnum
  have M0 := Aside0.mk ((Mem.start w).allocAt rfl #[.int .i64 n.kind, .int .i64 n.a, .int .i64 n.b, .int .i64 n.c, .slice A4 n.list.length c4, .slice A5 n.names.length c5, .int .u64 n.num, .int .i64 n.at_] 142)
  have zn := M0.out.box (.head _)
  have hun := Try.underlying142
  go_enter Try.func108, Try.ntmps108
  go_wp2
  go_ret
  exact ⟨by first | rfl | simp [*], by first | exact M0.out.below | exact pw_below_drewN M0.out.below _⟩
set_option maxHeartbeats 4000000 in
set_option maxRecDepth 100000 in
theorem names_20_2 (n : Node) (cs : List Value) (w : World) (hk : kNodeI.K w n cs) (hnum : 0 ≤ n.num ∧ n.num < 18446744073709551616) (hkind : n.kind = 20) (hz : (n.num == 0) = true) (hl : ¬ (0 : Int) < (n.list.length : Int)) (hn : ((n.names.length : Int) == 1) = false) : Calls Try.prog 108 #[.agg ⟨cs⟩] w fun e w' => e = .returned (.bool false) ∧ Below w.heap.size w w' := by
  obtain ⟨A4, c4, A5, c5, rfl, g4, g5⟩ := node_openI hk
  have hl4 : n.list.length ≤ 9223372036854775807 := g4.2.1; have hl5 : n.names.length ≤ 9223372036854775807 := g5.2.1
  have e1 : (n.kind == 1) = false := by simp [hkind]
  have m1 : (n.kind != 1) = true := by simp [hkind]
  have e2 : (n.kind == 2) = false := by simp [hkind]
  have m2 : (n.kind != 2) = true := by simp [hkind]
  have e6 : (n.kind == 6) = false := by simp [hkind]
  have m6 : (n.kind != 6) = true := by simp [hkind]
  have e20 : (n.kind == 20) = true := by simp [hkind]
  have m20 : (n.kind != 20) = false := by simp [hkind]
  have e21 : (n.kind == 21) = false := by simp [hkind]
  have m21 : (n.kind != 21) = true := by simp [hkind]
  have e27 : (n.kind == 27) = false := by simp [hkind]
  have m27 : (n.kind != 27) = true := by simp [hkind]
  have e13 : (n.kind == 13) = false := by simp [hkind]
  have m13 : (n.kind != 13) = true := by simp [hkind]
  have e12 : (n.kind == 12) = false := by simp [hkind]
  have m12 : (n.kind != 12) = true := by simp [hkind]
  have e29 : (n.kind == 29) = false := by simp [hkind]
  have m29 : (n.kind != 29) = true := by simp [hkind]
  have hz2 : (n.num != 0) = false := by simp [bne, hz]
  clear hk hkind
  have G5 := Aside0.mk g5; clear g4 g5; have HNUM := Aside0.mk hnum; clear hnum
  have M0 := Aside0.mk ((Mem.start w).allocAt rfl #[.int .i64 n.kind, .int .i64 n.a, .int .i64 n.b, .int .i64 n.c, .slice A4 n.list.length c4, .slice A5 n.names.length c5, .int .u64 n.num, .int .i64 n.at_] 142)
  have zn := M0.out.box (.head _)
  have hun := Try.underlying142
  go_enter Try.func108, Try.ntmps108
  go_wp2
  go_ret
  exact ⟨by first | rfl | simp [*], by first | exact M0.out.below | exact pw_below_drewN M0.out.below _⟩
set_option maxHeartbeats 4000000 in
set_option maxRecDepth 100000 in
theorem names_20_3 (n : Node) (cs : List Value) (w : World) (hk : kNodeI.K w n cs) (hnum : 0 ≤ n.num ∧ n.num < 18446744073709551616) (hkind : n.kind = 20) (hz : (n.num == 0) = true) (hl : ¬ (0 : Int) < (n.list.length : Int)) (hn : ((n.names.length : Int) == 1) = true) : Calls Try.prog 108 #[.agg ⟨cs⟩] w fun e w' => e = .returned (.bool (nameOk (el ByteArray.empty n.names 0))) ∧ Below w.heap.size w w' := by
  obtain ⟨A4, c4, A5, c5, rfl, g4, g5⟩ := node_openI hk
  have hl4 : n.list.length ≤ 9223372036854775807 := g4.2.1; have hl5 : n.names.length ≤ 9223372036854775807 := g5.2.1
  have e1 : (n.kind == 1) = false := by simp [hkind]
  have m1 : (n.kind != 1) = true := by simp [hkind]
  have e2 : (n.kind == 2) = false := by simp [hkind]
  have m2 : (n.kind != 2) = true := by simp [hkind]
  have e6 : (n.kind == 6) = false := by simp [hkind]
  have m6 : (n.kind != 6) = true := by simp [hkind]
  have e20 : (n.kind == 20) = true := by simp [hkind]
  have m20 : (n.kind != 20) = false := by simp [hkind]
  have e21 : (n.kind == 21) = false := by simp [hkind]
  have m21 : (n.kind != 21) = true := by simp [hkind]
  have e27 : (n.kind == 27) = false := by simp [hkind]
  have m27 : (n.kind != 27) = true := by simp [hkind]
  have e13 : (n.kind == 13) = false := by simp [hkind]
  have m13 : (n.kind != 13) = true := by simp [hkind]
  have e12 : (n.kind == 12) = false := by simp [hkind]
  have m12 : (n.kind != 12) = true := by simp [hkind]
  have e29 : (n.kind == 29) = false := by simp [hkind]
  have m29 : (n.kind != 29) = true := by simp [hkind]
  have hz2 : (n.num != 0) = false := by simp [bne, hz]
  clear hk hkind
  have G5 := Aside0.mk g5; clear g4 g5; have HNUM := Aside0.mk hnum; clear hnum
  have M0 := Aside0.mk ((Mem.start w).allocAt rfl #[.int .i64 n.kind, .int .i64 n.a, .int .i64 n.b, .int .i64 n.c, .slice A4 n.list.length c4, .slice A5 n.names.length c5, .int .u64 n.num, .int .i64 n.at_] 142)
  have zn := M0.out.box (.head _)
  have hun := Try.underlying142
  have hlen1 : 0 < n.names.length := by have : (n.names.length : Int) = 1 := by simpa using hn
                                        omega
  obtain ⟨pa, rfl, hxa⟩ := string_at G5.out 0 hlen1
  have hi : (0 : Int) < (n.names.length : Int) := by omega
  have hxb : w.cell? pa = _ := (show pa.add 0 = pa by cases pa; rfl) ▸ hxa
  have hxc := pw_cell_below M0.out.below hxa; have hxd := pw_cell_below M0.out.below hxb
  go_enter Try.func108, Try.ntmps108
  go_wp2_with fail
  refine (cImplName _ _).mono ?_; rintro e w1 ⟨rfl, hb⟩
  have M1 := Aside0.mk (M0.out.step hb); clear hb
  go_wp2
  go_ret
  exact ⟨rfl, M1.out.below⟩
set_option maxHeartbeats 4000000 in
set_option maxRecDepth 100000 in
theorem names_21_0 (n : Node) (cs : List Value) (w : World) (hk : kNodeI.K w n cs) (hnum : 0 ≤ n.num ∧ n.num < 18446744073709551616) (hkind : n.kind = 21) (hz : (n.num == 0) = false) : Calls Try.prog 108 #[.agg ⟨cs⟩] w fun e w' => e = .returned (.bool false) ∧ Below w.heap.size w w' := by
  obtain ⟨A4, c4, A5, c5, rfl, g4, g5⟩ := node_openI hk
  have hl4 : n.list.length ≤ 9223372036854775807 := g4.2.1; have hl5 : n.names.length ≤ 9223372036854775807 := g5.2.1
  have e1 : (n.kind == 1) = false := by simp [hkind]
  have m1 : (n.kind != 1) = true := by simp [hkind]
  have e2 : (n.kind == 2) = false := by simp [hkind]
  have m2 : (n.kind != 2) = true := by simp [hkind]
  have e6 : (n.kind == 6) = false := by simp [hkind]
  have m6 : (n.kind != 6) = true := by simp [hkind]
  have e20 : (n.kind == 20) = false := by simp [hkind]
  have m20 : (n.kind != 20) = true := by simp [hkind]
  have e21 : (n.kind == 21) = true := by simp [hkind]
  have m21 : (n.kind != 21) = false := by simp [hkind]
  have e27 : (n.kind == 27) = false := by simp [hkind]
  have m27 : (n.kind != 27) = true := by simp [hkind]
  have e13 : (n.kind == 13) = false := by simp [hkind]
  have m13 : (n.kind != 13) = true := by simp [hkind]
  have e12 : (n.kind == 12) = false := by simp [hkind]
  have m12 : (n.kind != 12) = true := by simp [hkind]
  have e29 : (n.kind == 29) = false := by simp [hkind]
  have m29 : (n.kind != 29) = true := by simp [hkind]
  have hz2 : (n.num != 0) = true := by simp [bne, hz]
  clear hk hkind
  have G5 := Aside0.mk g5; clear g4 g5; have HNUM := Aside0.mk hnum; clear hnum
  have M0 := Aside0.mk ((Mem.start w).allocAt rfl #[.int .i64 n.kind, .int .i64 n.a, .int .i64 n.b, .int .i64 n.c, .slice A4 n.list.length c4, .slice A5 n.names.length c5, .int .u64 n.num, .int .i64 n.at_] 142)
  have zn := M0.out.box (.head _)
  have hun := Try.underlying142
  go_enter Try.func108, Try.ntmps108
  go_wp2
  go_ret
  exact ⟨by first | rfl | simp [*], by first | exact M0.out.below | exact pw_below_drewN M0.out.below _⟩
set_option maxHeartbeats 4000000 in
set_option maxRecDepth 100000 in
theorem names_21_1 (n : Node) (cs : List Value) (w : World) (hk : kNodeI.K w n cs) (hnum : 0 ≤ n.num ∧ n.num < 18446744073709551616) (hkind : n.kind = 21) (hz : (n.num == 0) = true) (hl : (0 : Int) < (n.list.length : Int)) : Calls Try.prog 108 #[.agg ⟨cs⟩] w fun e w' => e = .returned (.bool false) ∧ Below w.heap.size w w' := by
  obtain ⟨A4, c4, A5, c5, rfl, g4, g5⟩ := node_openI hk
  have hl4 : n.list.length ≤ 9223372036854775807 := g4.2.1; have hl5 : n.names.length ≤ 9223372036854775807 := g5.2.1
  have e1 : (n.kind == 1) = false := by simp [hkind]
  have m1 : (n.kind != 1) = true := by simp [hkind]
  have e2 : (n.kind == 2) = false := by simp [hkind]
  have m2 : (n.kind != 2) = true := by simp [hkind]
  have e6 : (n.kind == 6) = false := by simp [hkind]
  have m6 : (n.kind != 6) = true := by simp [hkind]
  have e20 : (n.kind == 20) = false := by simp [hkind]
  have m20 : (n.kind != 20) = true := by simp [hkind]
  have e21 : (n.kind == 21) = true := by simp [hkind]
  have m21 : (n.kind != 21) = false := by simp [hkind]
  have e27 : (n.kind == 27) = false := by simp [hkind]
  have m27 : (n.kind != 27) = true := by simp [hkind]
  have e13 : (n.kind == 13) = false := by simp [hkind]
  have m13 : (n.kind != 13) = true := by simp [hkind]
  have e12 : (n.kind == 12) = false := by simp [hkind]
  have m12 : (n.kind != 12) = true := by simp [hkind]
  have e29 : (n.kind == 29) = false := by simp [hkind]
  have m29 : (n.kind != 29) = true := by simp [hkind]
  have hz2 : (n.num != 0) = false := by simp [bne, hz]
  clear hk hkind
  have G5 := Aside0.mk g5; clear g4 g5; have HNUM := Aside0.mk hnum; clear hnum
  have M0 := Aside0.mk ((Mem.start w).allocAt rfl #[.int .i64 n.kind, .int .i64 n.a, .int .i64 n.b, .int .i64 n.c, .slice A4 n.list.length c4, .slice A5 n.names.length c5, .int .u64 n.num, .int .i64 n.at_] 142)
  have zn := M0.out.box (.head _)
  have hun := Try.underlying142
  go_enter Try.func108, Try.ntmps108
  go_wp2
  go_ret
  exact ⟨by first | rfl | simp [*], by first | exact M0.out.below | exact pw_below_drewN M0.out.below _⟩
set_option maxHeartbeats 4000000 in
set_option maxRecDepth 100000 in
theorem names_21_2 (n : Node) (cs : List Value) (w : World) (hk : kNodeI.K w n cs) (hnum : 0 ≤ n.num ∧ n.num < 18446744073709551616) (hkind : n.kind = 21) (hz : (n.num == 0) = true) (hl : ¬ (0 : Int) < (n.list.length : Int)) (hn : ((n.names.length : Int) == 1) = false) : Calls Try.prog 108 #[.agg ⟨cs⟩] w fun e w' => e = .returned (.bool false) ∧ Below w.heap.size w w' := by
  obtain ⟨A4, c4, A5, c5, rfl, g4, g5⟩ := node_openI hk
  have hl4 : n.list.length ≤ 9223372036854775807 := g4.2.1; have hl5 : n.names.length ≤ 9223372036854775807 := g5.2.1
  have e1 : (n.kind == 1) = false := by simp [hkind]
  have m1 : (n.kind != 1) = true := by simp [hkind]
  have e2 : (n.kind == 2) = false := by simp [hkind]
  have m2 : (n.kind != 2) = true := by simp [hkind]
  have e6 : (n.kind == 6) = false := by simp [hkind]
  have m6 : (n.kind != 6) = true := by simp [hkind]
  have e20 : (n.kind == 20) = false := by simp [hkind]
  have m20 : (n.kind != 20) = true := by simp [hkind]
  have e21 : (n.kind == 21) = true := by simp [hkind]
  have m21 : (n.kind != 21) = false := by simp [hkind]
  have e27 : (n.kind == 27) = false := by simp [hkind]
  have m27 : (n.kind != 27) = true := by simp [hkind]
  have e13 : (n.kind == 13) = false := by simp [hkind]
  have m13 : (n.kind != 13) = true := by simp [hkind]
  have e12 : (n.kind == 12) = false := by simp [hkind]
  have m12 : (n.kind != 12) = true := by simp [hkind]
  have e29 : (n.kind == 29) = false := by simp [hkind]
  have m29 : (n.kind != 29) = true := by simp [hkind]
  have hz2 : (n.num != 0) = false := by simp [bne, hz]
  clear hk hkind
  have G5 := Aside0.mk g5; clear g4 g5; have HNUM := Aside0.mk hnum; clear hnum
  have M0 := Aside0.mk ((Mem.start w).allocAt rfl #[.int .i64 n.kind, .int .i64 n.a, .int .i64 n.b, .int .i64 n.c, .slice A4 n.list.length c4, .slice A5 n.names.length c5, .int .u64 n.num, .int .i64 n.at_] 142)
  have zn := M0.out.box (.head _)
  have hun := Try.underlying142
  go_enter Try.func108, Try.ntmps108
  go_wp2
  go_ret
  exact ⟨by first | rfl | simp [*], by first | exact M0.out.below | exact pw_below_drewN M0.out.below _⟩
set_option maxHeartbeats 4000000 in
set_option maxRecDepth 100000 in
theorem names_21_3 (n : Node) (cs : List Value) (w : World) (hk : kNodeI.K w n cs) (hnum : 0 ≤ n.num ∧ n.num < 18446744073709551616) (hkind : n.kind = 21) (hz : (n.num == 0) = true) (hl : ¬ (0 : Int) < (n.list.length : Int)) (hn : ((n.names.length : Int) == 1) = true) : Calls Try.prog 108 #[.agg ⟨cs⟩] w fun e w' => e = .returned (.bool (nameOk (el ByteArray.empty n.names 0))) ∧ Below w.heap.size w w' := by
  obtain ⟨A4, c4, A5, c5, rfl, g4, g5⟩ := node_openI hk
  have hl4 : n.list.length ≤ 9223372036854775807 := g4.2.1; have hl5 : n.names.length ≤ 9223372036854775807 := g5.2.1
  have e1 : (n.kind == 1) = false := by simp [hkind]
  have m1 : (n.kind != 1) = true := by simp [hkind]
  have e2 : (n.kind == 2) = false := by simp [hkind]
  have m2 : (n.kind != 2) = true := by simp [hkind]
  have e6 : (n.kind == 6) = false := by simp [hkind]
  have m6 : (n.kind != 6) = true := by simp [hkind]
  have e20 : (n.kind == 20) = false := by simp [hkind]
  have m20 : (n.kind != 20) = true := by simp [hkind]
  have e21 : (n.kind == 21) = true := by simp [hkind]
  have m21 : (n.kind != 21) = false := by simp [hkind]
  have e27 : (n.kind == 27) = false := by simp [hkind]
  have m27 : (n.kind != 27) = true := by simp [hkind]
  have e13 : (n.kind == 13) = false := by simp [hkind]
  have m13 : (n.kind != 13) = true := by simp [hkind]
  have e12 : (n.kind == 12) = false := by simp [hkind]
  have m12 : (n.kind != 12) = true := by simp [hkind]
  have e29 : (n.kind == 29) = false := by simp [hkind]
  have m29 : (n.kind != 29) = true := by simp [hkind]
  have hz2 : (n.num != 0) = false := by simp [bne, hz]
  clear hk hkind
  have G5 := Aside0.mk g5; clear g4 g5; have HNUM := Aside0.mk hnum; clear hnum
  have M0 := Aside0.mk ((Mem.start w).allocAt rfl #[.int .i64 n.kind, .int .i64 n.a, .int .i64 n.b, .int .i64 n.c, .slice A4 n.list.length c4, .slice A5 n.names.length c5, .int .u64 n.num, .int .i64 n.at_] 142)
  have zn := M0.out.box (.head _)
  have hun := Try.underlying142
  have hlen1 : 0 < n.names.length := by have : (n.names.length : Int) = 1 := by simpa using hn
                                        omega
  obtain ⟨pa, rfl, hxa⟩ := string_at G5.out 0 hlen1
  have hi : (0 : Int) < (n.names.length : Int) := by omega
  have hxb : w.cell? pa = _ := (show pa.add 0 = pa by cases pa; rfl) ▸ hxa
  have hxc := pw_cell_below M0.out.below hxa; have hxd := pw_cell_below M0.out.below hxb
  go_enter Try.func108, Try.ntmps108
  go_wp2_with fail
  refine (cImplName _ _).mono ?_; rintro e w1 ⟨rfl, hb⟩
  have M1 := Aside0.mk (M0.out.step hb); clear hb
  go_wp2
  go_ret
  exact ⟨rfl, M1.out.below⟩
set_option maxHeartbeats 4000000 in
set_option maxRecDepth 100000 in
theorem names_27_0 (n : Node) (cs : List Value) (w : World) (hk : kNodeI.K w n cs) (hnum : 0 ≤ n.num ∧ n.num < 18446744073709551616) (hkind : n.kind = 27) (hz : (n.num == 0) = false) : Calls Try.prog 108 #[.agg ⟨cs⟩] w fun e w' => e = .returned (.bool false) ∧ Below w.heap.size w w' := by
  obtain ⟨A4, c4, A5, c5, rfl, g4, g5⟩ := node_openI hk
  have hl4 : n.list.length ≤ 9223372036854775807 := g4.2.1; have hl5 : n.names.length ≤ 9223372036854775807 := g5.2.1
  have e1 : (n.kind == 1) = false := by simp [hkind]
  have m1 : (n.kind != 1) = true := by simp [hkind]
  have e2 : (n.kind == 2) = false := by simp [hkind]
  have m2 : (n.kind != 2) = true := by simp [hkind]
  have e6 : (n.kind == 6) = false := by simp [hkind]
  have m6 : (n.kind != 6) = true := by simp [hkind]
  have e20 : (n.kind == 20) = false := by simp [hkind]
  have m20 : (n.kind != 20) = true := by simp [hkind]
  have e21 : (n.kind == 21) = false := by simp [hkind]
  have m21 : (n.kind != 21) = true := by simp [hkind]
  have e27 : (n.kind == 27) = true := by simp [hkind]
  have m27 : (n.kind != 27) = false := by simp [hkind]
  have e13 : (n.kind == 13) = false := by simp [hkind]
  have m13 : (n.kind != 13) = true := by simp [hkind]
  have e12 : (n.kind == 12) = false := by simp [hkind]
  have m12 : (n.kind != 12) = true := by simp [hkind]
  have e29 : (n.kind == 29) = false := by simp [hkind]
  have m29 : (n.kind != 29) = true := by simp [hkind]
  have hz2 : (n.num != 0) = true := by simp [bne, hz]
  clear hk hkind
  have G5 := Aside0.mk g5; clear g4 g5; have HNUM := Aside0.mk hnum; clear hnum
  have M0 := Aside0.mk ((Mem.start w).allocAt rfl #[.int .i64 n.kind, .int .i64 n.a, .int .i64 n.b, .int .i64 n.c, .slice A4 n.list.length c4, .slice A5 n.names.length c5, .int .u64 n.num, .int .i64 n.at_] 142)
  have zn := M0.out.box (.head _)
  have hun := Try.underlying142
  go_enter Try.func108, Try.ntmps108
  go_wp2
  go_ret
  exact ⟨by first | rfl | simp [*], by first | exact M0.out.below | exact pw_below_drewN M0.out.below _⟩
set_option maxHeartbeats 4000000 in
set_option maxRecDepth 100000 in
theorem names_27_1 (n : Node) (cs : List Value) (w : World) (hk : kNodeI.K w n cs) (hnum : 0 ≤ n.num ∧ n.num < 18446744073709551616) (hkind : n.kind = 27) (hz : (n.num == 0) = true) (hl : (0 : Int) < (n.list.length : Int)) : Calls Try.prog 108 #[.agg ⟨cs⟩] w fun e w' => e = .returned (.bool false) ∧ Below w.heap.size w w' := by
  obtain ⟨A4, c4, A5, c5, rfl, g4, g5⟩ := node_openI hk
  have hl4 : n.list.length ≤ 9223372036854775807 := g4.2.1; have hl5 : n.names.length ≤ 9223372036854775807 := g5.2.1
  have e1 : (n.kind == 1) = false := by simp [hkind]
  have m1 : (n.kind != 1) = true := by simp [hkind]
  have e2 : (n.kind == 2) = false := by simp [hkind]
  have m2 : (n.kind != 2) = true := by simp [hkind]
  have e6 : (n.kind == 6) = false := by simp [hkind]
  have m6 : (n.kind != 6) = true := by simp [hkind]
  have e20 : (n.kind == 20) = false := by simp [hkind]
  have m20 : (n.kind != 20) = true := by simp [hkind]
  have e21 : (n.kind == 21) = false := by simp [hkind]
  have m21 : (n.kind != 21) = true := by simp [hkind]
  have e27 : (n.kind == 27) = true := by simp [hkind]
  have m27 : (n.kind != 27) = false := by simp [hkind]
  have e13 : (n.kind == 13) = false := by simp [hkind]
  have m13 : (n.kind != 13) = true := by simp [hkind]
  have e12 : (n.kind == 12) = false := by simp [hkind]
  have m12 : (n.kind != 12) = true := by simp [hkind]
  have e29 : (n.kind == 29) = false := by simp [hkind]
  have m29 : (n.kind != 29) = true := by simp [hkind]
  have hz2 : (n.num != 0) = false := by simp [bne, hz]
  clear hk hkind
  have G5 := Aside0.mk g5; clear g4 g5; have HNUM := Aside0.mk hnum; clear hnum
  have M0 := Aside0.mk ((Mem.start w).allocAt rfl #[.int .i64 n.kind, .int .i64 n.a, .int .i64 n.b, .int .i64 n.c, .slice A4 n.list.length c4, .slice A5 n.names.length c5, .int .u64 n.num, .int .i64 n.at_] 142)
  have zn := M0.out.box (.head _)
  have hun := Try.underlying142
  go_enter Try.func108, Try.ntmps108
  go_wp2
  go_ret
  exact ⟨by first | rfl | simp [*], by first | exact M0.out.below | exact pw_below_drewN M0.out.below _⟩
set_option maxHeartbeats 4000000 in
set_option maxRecDepth 100000 in
theorem names_27_2 (n : Node) (cs : List Value) (w : World) (hk : kNodeI.K w n cs) (hnum : 0 ≤ n.num ∧ n.num < 18446744073709551616) (hkind : n.kind = 27) (hz : (n.num == 0) = true) (hl : ¬ (0 : Int) < (n.list.length : Int)) (hn : ((n.names.length : Int) == 1) = false) : Calls Try.prog 108 #[.agg ⟨cs⟩] w fun e w' => e = .returned (.bool false) ∧ Below w.heap.size w w' := by
  obtain ⟨A4, c4, A5, c5, rfl, g4, g5⟩ := node_openI hk
  have hl4 : n.list.length ≤ 9223372036854775807 := g4.2.1; have hl5 : n.names.length ≤ 9223372036854775807 := g5.2.1
  have e1 : (n.kind == 1) = false := by simp [hkind]
  have m1 : (n.kind != 1) = true := by simp [hkind]
  have e2 : (n.kind == 2) = false := by simp [hkind]
  have m2 : (n.kind != 2) = true := by simp [hkind]
  have e6 : (n.kind == 6) = false := by simp [hkind]
  have m6 : (n.kind != 6) = true := by simp [hkind]
  have e20 : (n.kind == 20) = false := by simp [hkind]
  have m20 : (n.kind != 20) = true := by simp [hkind]
  have e21 : (n.kind == 21) = false := by simp [hkind]
  have m21 : (n.kind != 21) = true := by simp [hkind]
  have e27 : (n.kind == 27) = true := by simp [hkind]
  have m27 : (n.kind != 27) = false := by simp [hkind]
  have e13 : (n.kind == 13) = false := by simp [hkind]
  have m13 : (n.kind != 13) = true := by simp [hkind]
  have e12 : (n.kind == 12) = false := by simp [hkind]
  have m12 : (n.kind != 12) = true := by simp [hkind]
  have e29 : (n.kind == 29) = false := by simp [hkind]
  have m29 : (n.kind != 29) = true := by simp [hkind]
  have hz2 : (n.num != 0) = false := by simp [bne, hz]
  clear hk hkind
  have G5 := Aside0.mk g5; clear g4 g5; have HNUM := Aside0.mk hnum; clear hnum
  have M0 := Aside0.mk ((Mem.start w).allocAt rfl #[.int .i64 n.kind, .int .i64 n.a, .int .i64 n.b, .int .i64 n.c, .slice A4 n.list.length c4, .slice A5 n.names.length c5, .int .u64 n.num, .int .i64 n.at_] 142)
  have zn := M0.out.box (.head _)
  have hun := Try.underlying142
  go_enter Try.func108, Try.ntmps108
  go_wp2
  go_ret
  exact ⟨by first | rfl | simp [*], by first | exact M0.out.below | exact pw_below_drewN M0.out.below _⟩
set_option maxHeartbeats 4000000 in
set_option maxRecDepth 100000 in
theorem names_27_3 (n : Node) (cs : List Value) (w : World) (hk : kNodeI.K w n cs) (hnum : 0 ≤ n.num ∧ n.num < 18446744073709551616) (hkind : n.kind = 27) (hz : (n.num == 0) = true) (hl : ¬ (0 : Int) < (n.list.length : Int)) (hn : ((n.names.length : Int) == 1) = true) : Calls Try.prog 108 #[.agg ⟨cs⟩] w fun e w' => e = .returned (.bool (nameOk (el ByteArray.empty n.names 0))) ∧ Below w.heap.size w w' := by
  obtain ⟨A4, c4, A5, c5, rfl, g4, g5⟩ := node_openI hk
  have hl4 : n.list.length ≤ 9223372036854775807 := g4.2.1; have hl5 : n.names.length ≤ 9223372036854775807 := g5.2.1
  have e1 : (n.kind == 1) = false := by simp [hkind]
  have m1 : (n.kind != 1) = true := by simp [hkind]
  have e2 : (n.kind == 2) = false := by simp [hkind]
  have m2 : (n.kind != 2) = true := by simp [hkind]
  have e6 : (n.kind == 6) = false := by simp [hkind]
  have m6 : (n.kind != 6) = true := by simp [hkind]
  have e20 : (n.kind == 20) = false := by simp [hkind]
  have m20 : (n.kind != 20) = true := by simp [hkind]
  have e21 : (n.kind == 21) = false := by simp [hkind]
  have m21 : (n.kind != 21) = true := by simp [hkind]
  have e27 : (n.kind == 27) = true := by simp [hkind]
  have m27 : (n.kind != 27) = false := by simp [hkind]
  have e13 : (n.kind == 13) = false := by simp [hkind]
  have m13 : (n.kind != 13) = true := by simp [hkind]
  have e12 : (n.kind == 12) = false := by simp [hkind]
  have m12 : (n.kind != 12) = true := by simp [hkind]
  have e29 : (n.kind == 29) = false := by simp [hkind]
  have m29 : (n.kind != 29) = true := by simp [hkind]
  have hz2 : (n.num != 0) = false := by simp [bne, hz]
  clear hk hkind
  have G5 := Aside0.mk g5; clear g4 g5; have HNUM := Aside0.mk hnum; clear hnum
  have M0 := Aside0.mk ((Mem.start w).allocAt rfl #[.int .i64 n.kind, .int .i64 n.a, .int .i64 n.b, .int .i64 n.c, .slice A4 n.list.length c4, .slice A5 n.names.length c5, .int .u64 n.num, .int .i64 n.at_] 142)
  have zn := M0.out.box (.head _)
  have hun := Try.underlying142
  have hlen1 : 0 < n.names.length := by have : (n.names.length : Int) = 1 := by simpa using hn
                                        omega
  obtain ⟨pa, rfl, hxa⟩ := string_at G5.out 0 hlen1
  have hi : (0 : Int) < (n.names.length : Int) := by omega
  have hxb : w.cell? pa = _ := (show pa.add 0 = pa by cases pa; rfl) ▸ hxa
  have hxc := pw_cell_below M0.out.below hxa; have hxd := pw_cell_below M0.out.below hxb
  go_enter Try.func108, Try.ntmps108
  go_wp2_with fail
  refine (cImplName _ _).mono ?_; rintro e w1 ⟨rfl, hb⟩
  have M1 := Aside0.mk (M0.out.step hb); clear hb
  go_wp2
  go_ret
  exact ⟨rfl, M1.out.below⟩
set_option maxHeartbeats 4000000 in
set_option maxRecDepth 100000 in
theorem names_13_0 (n : Node) (cs : List Value) (w : World) (hk : kNodeI.K w n cs) (hnum : 0 ≤ n.num ∧ n.num < 18446744073709551616) (hkind : n.kind = 13) (hz : (n.num == 0) = false) : Calls Try.prog 108 #[.agg ⟨cs⟩] w fun e w' => e = .returned (.bool false) ∧ Below w.heap.size w w' := by
  obtain ⟨A4, c4, A5, c5, rfl, g4, g5⟩ := node_openI hk
  have hl4 : n.list.length ≤ 9223372036854775807 := g4.2.1; have hl5 : n.names.length ≤ 9223372036854775807 := g5.2.1
  have e1 : (n.kind == 1) = false := by simp [hkind]
  have m1 : (n.kind != 1) = true := by simp [hkind]
  have e2 : (n.kind == 2) = false := by simp [hkind]
  have m2 : (n.kind != 2) = true := by simp [hkind]
  have e6 : (n.kind == 6) = false := by simp [hkind]
  have m6 : (n.kind != 6) = true := by simp [hkind]
  have e20 : (n.kind == 20) = false := by simp [hkind]
  have m20 : (n.kind != 20) = true := by simp [hkind]
  have e21 : (n.kind == 21) = false := by simp [hkind]
  have m21 : (n.kind != 21) = true := by simp [hkind]
  have e27 : (n.kind == 27) = false := by simp [hkind]
  have m27 : (n.kind != 27) = true := by simp [hkind]
  have e13 : (n.kind == 13) = true := by simp [hkind]
  have m13 : (n.kind != 13) = false := by simp [hkind]
  have e12 : (n.kind == 12) = false := by simp [hkind]
  have m12 : (n.kind != 12) = true := by simp [hkind]
  have e29 : (n.kind == 29) = false := by simp [hkind]
  have m29 : (n.kind != 29) = true := by simp [hkind]
  have hz2 : (n.num != 0) = true := by simp [bne, hz]
  clear hk hkind
  have G5 := Aside0.mk g5; clear g4 g5; have HNUM := Aside0.mk hnum; clear hnum
  have M0 := Aside0.mk ((Mem.start w).allocAt rfl #[.int .i64 n.kind, .int .i64 n.a, .int .i64 n.b, .int .i64 n.c, .slice A4 n.list.length c4, .slice A5 n.names.length c5, .int .u64 n.num, .int .i64 n.at_] 142)
  have zn := M0.out.box (.head _)
  have hun := Try.underlying142
  go_enter Try.func108, Try.ntmps108
  go_wp2
  go_ret
  exact ⟨by first | rfl | simp [*], by first | exact M0.out.below | exact pw_below_drewN M0.out.below _⟩
set_option maxHeartbeats 4000000 in
set_option maxRecDepth 100000 in
theorem names_13_1 (n : Node) (cs : List Value) (w : World) (hk : kNodeI.K w n cs) (hnum : 0 ≤ n.num ∧ n.num < 18446744073709551616) (hkind : n.kind = 13) (hz : (n.num == 0) = true) (hl : (0 : Int) < (n.list.length : Int)) : Calls Try.prog 108 #[.agg ⟨cs⟩] w fun e w' => e = .returned (.bool false) ∧ Below w.heap.size w w' := by
  obtain ⟨A4, c4, A5, c5, rfl, g4, g5⟩ := node_openI hk
  have hl4 : n.list.length ≤ 9223372036854775807 := g4.2.1; have hl5 : n.names.length ≤ 9223372036854775807 := g5.2.1
  have e1 : (n.kind == 1) = false := by simp [hkind]
  have m1 : (n.kind != 1) = true := by simp [hkind]
  have e2 : (n.kind == 2) = false := by simp [hkind]
  have m2 : (n.kind != 2) = true := by simp [hkind]
  have e6 : (n.kind == 6) = false := by simp [hkind]
  have m6 : (n.kind != 6) = true := by simp [hkind]
  have e20 : (n.kind == 20) = false := by simp [hkind]
  have m20 : (n.kind != 20) = true := by simp [hkind]
  have e21 : (n.kind == 21) = false := by simp [hkind]
  have m21 : (n.kind != 21) = true := by simp [hkind]
  have e27 : (n.kind == 27) = false := by simp [hkind]
  have m27 : (n.kind != 27) = true := by simp [hkind]
  have e13 : (n.kind == 13) = true := by simp [hkind]
  have m13 : (n.kind != 13) = false := by simp [hkind]
  have e12 : (n.kind == 12) = false := by simp [hkind]
  have m12 : (n.kind != 12) = true := by simp [hkind]
  have e29 : (n.kind == 29) = false := by simp [hkind]
  have m29 : (n.kind != 29) = true := by simp [hkind]
  have hz2 : (n.num != 0) = false := by simp [bne, hz]
  clear hk hkind
  have G5 := Aside0.mk g5; clear g4 g5; have HNUM := Aside0.mk hnum; clear hnum
  have M0 := Aside0.mk ((Mem.start w).allocAt rfl #[.int .i64 n.kind, .int .i64 n.a, .int .i64 n.b, .int .i64 n.c, .slice A4 n.list.length c4, .slice A5 n.names.length c5, .int .u64 n.num, .int .i64 n.at_] 142)
  have zn := M0.out.box (.head _)
  have hun := Try.underlying142
  go_enter Try.func108, Try.ntmps108
  go_wp2
  go_ret
  exact ⟨by first | rfl | simp [*], by first | exact M0.out.below | exact pw_below_drewN M0.out.below _⟩
set_option maxHeartbeats 4000000 in
set_option maxRecDepth 100000 in
theorem names_13_2 (n : Node) (cs : List Value) (w : World) (hk : kNodeI.K w n cs) (hnum : 0 ≤ n.num ∧ n.num < 18446744073709551616) (hkind : n.kind = 13) (hz : (n.num == 0) = true) (hl : ¬ (0 : Int) < (n.list.length : Int)) (hn : ¬ (n.names.length : Int) ≤ 4) : Calls Try.prog 108 #[.agg ⟨cs⟩] w fun e w' => e = .returned (.bool false) ∧ Below w.heap.size w w' := by
  obtain ⟨A4, c4, A5, c5, rfl, g4, g5⟩ := node_openI hk
  have hl4 : n.list.length ≤ 9223372036854775807 := g4.2.1; have hl5 : n.names.length ≤ 9223372036854775807 := g5.2.1
  have e1 : (n.kind == 1) = false := by simp [hkind]
  have m1 : (n.kind != 1) = true := by simp [hkind]
  have e2 : (n.kind == 2) = false := by simp [hkind]
  have m2 : (n.kind != 2) = true := by simp [hkind]
  have e6 : (n.kind == 6) = false := by simp [hkind]
  have m6 : (n.kind != 6) = true := by simp [hkind]
  have e20 : (n.kind == 20) = false := by simp [hkind]
  have m20 : (n.kind != 20) = true := by simp [hkind]
  have e21 : (n.kind == 21) = false := by simp [hkind]
  have m21 : (n.kind != 21) = true := by simp [hkind]
  have e27 : (n.kind == 27) = false := by simp [hkind]
  have m27 : (n.kind != 27) = true := by simp [hkind]
  have e13 : (n.kind == 13) = true := by simp [hkind]
  have m13 : (n.kind != 13) = false := by simp [hkind]
  have e12 : (n.kind == 12) = false := by simp [hkind]
  have m12 : (n.kind != 12) = true := by simp [hkind]
  have e29 : (n.kind == 29) = false := by simp [hkind]
  have m29 : (n.kind != 29) = true := by simp [hkind]
  have hz2 : (n.num != 0) = false := by simp [bne, hz]
  clear hk hkind
  have G5 := Aside0.mk g5; clear g4 g5; have HNUM := Aside0.mk hnum; clear hnum
  have M0 := Aside0.mk ((Mem.start w).allocAt rfl #[.int .i64 n.kind, .int .i64 n.a, .int .i64 n.b, .int .i64 n.c, .slice A4 n.list.length c4, .slice A5 n.names.length c5, .int .u64 n.num, .int .i64 n.at_] 142)
  have zn := M0.out.box (.head _)
  have hun := Try.underlying142
  have hn2 : decide ((n.names.length : Int) ≤ 4) = false := decide_eq_false hn
  have hn3 : (4 : Int) < (n.names.length : Int) := by omega
  go_enter Try.func108, Try.ntmps108
  go_wp2
  go_ret
  exact ⟨by first | rfl | simp [*], by first | exact M0.out.below | exact pw_below_drewN M0.out.below _⟩
set_option maxHeartbeats 4000000 in
set_option maxRecDepth 100000 in
theorem names_13_3 (n : Node) (cs : List Value) (w : World) (hk : kNodeI.K w n cs) (hnum : 0 ≤ n.num ∧ n.num < 18446744073709551616) (hkind : n.kind = 13) (hz : (n.num == 0) = true) (hl : ¬ (0 : Int) < (n.list.length : Int)) (hn : (n.names.length : Int) ≤ 4) : Calls Try.prog 108 #[.agg ⟨cs⟩] w fun e w' => e = .returned (.bool (n.names.all nameOk)) ∧ Below w.heap.size w w' := by
  obtain ⟨A4, c4, A5, c5, rfl, g4, g5⟩ := node_openI hk
  have hl4 : n.list.length ≤ 9223372036854775807 := g4.2.1; have hl5 : n.names.length ≤ 9223372036854775807 := g5.2.1
  have e1 : (n.kind == 1) = false := by simp [hkind]
  have m1 : (n.kind != 1) = true := by simp [hkind]
  have e2 : (n.kind == 2) = false := by simp [hkind]
  have m2 : (n.kind != 2) = true := by simp [hkind]
  have e6 : (n.kind == 6) = false := by simp [hkind]
  have m6 : (n.kind != 6) = true := by simp [hkind]
  have e20 : (n.kind == 20) = false := by simp [hkind]
  have m20 : (n.kind != 20) = true := by simp [hkind]
  have e21 : (n.kind == 21) = false := by simp [hkind]
  have m21 : (n.kind != 21) = true := by simp [hkind]
  have e27 : (n.kind == 27) = false := by simp [hkind]
  have m27 : (n.kind != 27) = true := by simp [hkind]
  have e13 : (n.kind == 13) = true := by simp [hkind]
  have m13 : (n.kind != 13) = false := by simp [hkind]
  have e12 : (n.kind == 12) = false := by simp [hkind]
  have m12 : (n.kind != 12) = true := by simp [hkind]
  have e29 : (n.kind == 29) = false := by simp [hkind]
  have m29 : (n.kind != 29) = true := by simp [hkind]
  have hz2 : (n.num != 0) = false := by simp [bne, hz]
  clear hk hkind
  have G5 := Aside0.mk g5; clear g4 g5; have HNUM := Aside0.mk hnum; clear hnum
  have M0 := Aside0.mk ((Mem.start w).allocAt rfl #[.int .i64 n.kind, .int .i64 n.a, .int .i64 n.b, .int .i64 n.c, .slice A4 n.list.length c4, .slice A5 n.names.length c5, .int .u64 n.num, .int .i64 n.at_] 142)
  have zn := M0.out.box (.head _)
  have hun := Try.underlying142
  have hn2 : decide ((n.names.length : Int) ≤ 4) = true := decide_eq_true hn
  go_enter Try.func108, Try.ntmps108
  go_wp2_with fail
  refine (cHasBad _ _ _ _ (Kd.C_below G5.out M0.out.below)).mono ?_; rintro e w1 ⟨rfl, hb⟩
  have M1 := Aside0.mk (M0.out.step hb); clear hb
  go_wp2
  go_ret
  exact ⟨by first | rfl | simp, M1.out.below⟩
set_option maxHeartbeats 4000000 in
set_option maxRecDepth 100000 in
theorem names_12_0 (n : Node) (cs : List Value) (w : World) (hk : kNodeI.K w n cs) (hnum : 0 ≤ n.num ∧ n.num < 18446744073709551616) (hkind : n.kind = 12) (hz : (n.num == 0) = false) : Calls Try.prog 108 #[.agg ⟨cs⟩] w fun e w' => e = .returned (.bool false) ∧ Below w.heap.size w w' := by
  obtain ⟨A4, c4, A5, c5, rfl, g4, g5⟩ := node_openI hk
  have hl4 : n.list.length ≤ 9223372036854775807 := g4.2.1; have hl5 : n.names.length ≤ 9223372036854775807 := g5.2.1
  have e1 : (n.kind == 1) = false := by simp [hkind]
  have m1 : (n.kind != 1) = true := by simp [hkind]
  have e2 : (n.kind == 2) = false := by simp [hkind]
  have m2 : (n.kind != 2) = true := by simp [hkind]
  have e6 : (n.kind == 6) = false := by simp [hkind]
  have m6 : (n.kind != 6) = true := by simp [hkind]
  have e20 : (n.kind == 20) = false := by simp [hkind]
  have m20 : (n.kind != 20) = true := by simp [hkind]
  have e21 : (n.kind == 21) = false := by simp [hkind]
  have m21 : (n.kind != 21) = true := by simp [hkind]
  have e27 : (n.kind == 27) = false := by simp [hkind]
  have m27 : (n.kind != 27) = true := by simp [hkind]
  have e13 : (n.kind == 13) = false := by simp [hkind]
  have m13 : (n.kind != 13) = true := by simp [hkind]
  have e12 : (n.kind == 12) = true := by simp [hkind]
  have m12 : (n.kind != 12) = false := by simp [hkind]
  have e29 : (n.kind == 29) = false := by simp [hkind]
  have m29 : (n.kind != 29) = true := by simp [hkind]
  have hz2 : (n.num != 0) = true := by simp [bne, hz]
  clear hk hkind
  have G5 := Aside0.mk g5; clear g4 g5; have HNUM := Aside0.mk hnum; clear hnum
  have M0 := Aside0.mk ((Mem.start w).allocAt rfl #[.int .i64 n.kind, .int .i64 n.a, .int .i64 n.b, .int .i64 n.c, .slice A4 n.list.length c4, .slice A5 n.names.length c5, .int .u64 n.num, .int .i64 n.at_] 142)
  have zn := M0.out.box (.head _)
  have hun := Try.underlying142
  go_enter Try.func108, Try.ntmps108
  go_wp2
  go_ret
  exact ⟨by first | rfl | simp [*], by first | exact M0.out.below | exact pw_below_drewN M0.out.below _⟩
set_option maxHeartbeats 4000000 in
set_option maxRecDepth 100000 in
theorem names_12_2 (n : Node) (cs : List Value) (w : World) (hk : kNodeI.K w n cs) (hnum : 0 ≤ n.num ∧ n.num < 18446744073709551616) (hkind : n.kind = 12) (hz : (n.num == 0) = true) : Calls Try.prog 108 #[.agg ⟨cs⟩] w fun e w' => e = .returned (.bool ((n.names.length : Int) == 0)) ∧ Below w.heap.size w w' := by
  obtain ⟨A4, c4, A5, c5, rfl, g4, g5⟩ := node_openI hk
  have hl4 : n.list.length ≤ 9223372036854775807 := g4.2.1; have hl5 : n.names.length ≤ 9223372036854775807 := g5.2.1
  have e1 : (n.kind == 1) = false := by simp [hkind]
  have m1 : (n.kind != 1) = true := by simp [hkind]
  have e2 : (n.kind == 2) = false := by simp [hkind]
  have m2 : (n.kind != 2) = true := by simp [hkind]
  have e6 : (n.kind == 6) = false := by simp [hkind]
  have m6 : (n.kind != 6) = true := by simp [hkind]
  have e20 : (n.kind == 20) = false := by simp [hkind]
  have m20 : (n.kind != 20) = true := by simp [hkind]
  have e21 : (n.kind == 21) = false := by simp [hkind]
  have m21 : (n.kind != 21) = true := by simp [hkind]
  have e27 : (n.kind == 27) = false := by simp [hkind]
  have m27 : (n.kind != 27) = true := by simp [hkind]
  have e13 : (n.kind == 13) = false := by simp [hkind]
  have m13 : (n.kind != 13) = true := by simp [hkind]
  have e12 : (n.kind == 12) = true := by simp [hkind]
  have m12 : (n.kind != 12) = false := by simp [hkind]
  have e29 : (n.kind == 29) = false := by simp [hkind]
  have m29 : (n.kind != 29) = true := by simp [hkind]
  have hz2 : (n.num != 0) = false := by simp [bne, hz]
  clear hk hkind
  have G5 := Aside0.mk g5; clear g4 g5; have HNUM := Aside0.mk hnum; clear hnum
  have M0 := Aside0.mk ((Mem.start w).allocAt rfl #[.int .i64 n.kind, .int .i64 n.a, .int .i64 n.b, .int .i64 n.c, .slice A4 n.list.length c4, .slice A5 n.names.length c5, .int .u64 n.num, .int .i64 n.at_] 142)
  have zn := M0.out.box (.head _)
  have hun := Try.underlying142
  go_enter Try.func108, Try.ntmps108
  go_wp2
  go_ret
  exact ⟨rfl, M0.out.below⟩
set_option maxHeartbeats 4000000 in
set_option maxRecDepth 100000 in
theorem names_29_0 (n : Node) (cs : List Value) (w : World) (hk : kNodeI.K w n cs) (hnum : 0 ≤ n.num ∧ n.num < 18446744073709551616) (hkind : n.kind = 29) (hz : (n.num == 0) = false) : Calls Try.prog 108 #[.agg ⟨cs⟩] w fun e w' => e = .returned (.bool false) ∧ Below w.heap.size w w' := by
  obtain ⟨A4, c4, A5, c5, rfl, g4, g5⟩ := node_openI hk
  have hl4 : n.list.length ≤ 9223372036854775807 := g4.2.1; have hl5 : n.names.length ≤ 9223372036854775807 := g5.2.1
  have e1 : (n.kind == 1) = false := by simp [hkind]
  have m1 : (n.kind != 1) = true := by simp [hkind]
  have e2 : (n.kind == 2) = false := by simp [hkind]
  have m2 : (n.kind != 2) = true := by simp [hkind]
  have e6 : (n.kind == 6) = false := by simp [hkind]
  have m6 : (n.kind != 6) = true := by simp [hkind]
  have e20 : (n.kind == 20) = false := by simp [hkind]
  have m20 : (n.kind != 20) = true := by simp [hkind]
  have e21 : (n.kind == 21) = false := by simp [hkind]
  have m21 : (n.kind != 21) = true := by simp [hkind]
  have e27 : (n.kind == 27) = false := by simp [hkind]
  have m27 : (n.kind != 27) = true := by simp [hkind]
  have e13 : (n.kind == 13) = false := by simp [hkind]
  have m13 : (n.kind != 13) = true := by simp [hkind]
  have e12 : (n.kind == 12) = false := by simp [hkind]
  have m12 : (n.kind != 12) = true := by simp [hkind]
  have e29 : (n.kind == 29) = true := by simp [hkind]
  have m29 : (n.kind != 29) = false := by simp [hkind]
  have hz2 : (n.num != 0) = true := by simp [bne, hz]
  clear hk hkind
  have G5 := Aside0.mk g5; clear g4 g5; have HNUM := Aside0.mk hnum; clear hnum
  have M0 := Aside0.mk ((Mem.start w).allocAt rfl #[.int .i64 n.kind, .int .i64 n.a, .int .i64 n.b, .int .i64 n.c, .slice A4 n.list.length c4, .slice A5 n.names.length c5, .int .u64 n.num, .int .i64 n.at_] 142)
  have zn := M0.out.box (.head _)
  have hun := Try.underlying142
  go_enter Try.func108, Try.ntmps108
  go_wp2
  go_ret
  exact ⟨by first | rfl | simp [*], by first | exact M0.out.below | exact pw_below_drewN M0.out.below _⟩
set_option maxHeartbeats 4000000 in
set_option maxRecDepth 100000 in
theorem names_29_2 (n : Node) (cs : List Value) (w : World) (hk : kNodeI.K w n cs) (hnum : 0 ≤ n.num ∧ n.num < 18446744073709551616) (hkind : n.kind = 29) (hz : (n.num == 0) = true) : Calls Try.prog 108 #[.agg ⟨cs⟩] w fun e w' => e = .returned (.bool ((n.names.length : Int) == 0)) ∧ Below w.heap.size w w' := by
  obtain ⟨A4, c4, A5, c5, rfl, g4, g5⟩ := node_openI hk
  have hl4 : n.list.length ≤ 9223372036854775807 := g4.2.1; have hl5 : n.names.length ≤ 9223372036854775807 := g5.2.1
  have e1 : (n.kind == 1) = false := by simp [hkind]
  have m1 : (n.kind != 1) = true := by simp [hkind]
  have e2 : (n.kind == 2) = false := by simp [hkind]
  have m2 : (n.kind != 2) = true := by simp [hkind]
  have e6 : (n.kind == 6) = false := by simp [hkind]
  have m6 : (n.kind != 6) = true := by simp [hkind]
  have e20 : (n.kind == 20) = false := by simp [hkind]
  have m20 : (n.kind != 20) = true := by simp [hkind]
  have e21 : (n.kind == 21) = false := by simp [hkind]
  have m21 : (n.kind != 21) = true := by simp [hkind]
  have e27 : (n.kind == 27) = false := by simp [hkind]
  have m27 : (n.kind != 27) = true := by simp [hkind]
  have e13 : (n.kind == 13) = false := by simp [hkind]
  have m13 : (n.kind != 13) = true := by simp [hkind]
  have e12 : (n.kind == 12) = false := by simp [hkind]
  have m12 : (n.kind != 12) = true := by simp [hkind]
  have e29 : (n.kind == 29) = true := by simp [hkind]
  have m29 : (n.kind != 29) = false := by simp [hkind]
  have hz2 : (n.num != 0) = false := by simp [bne, hz]
  clear hk hkind
  have G5 := Aside0.mk g5; clear g4 g5; have HNUM := Aside0.mk hnum; clear hnum
  have M0 := Aside0.mk ((Mem.start w).allocAt rfl #[.int .i64 n.kind, .int .i64 n.a, .int .i64 n.b, .int .i64 n.c, .slice A4 n.list.length c4, .slice A5 n.names.length c5, .int .u64 n.num, .int .i64 n.at_] 142)
  have zn := M0.out.box (.head _)
  have hun := Try.underlying142
  go_enter Try.func108, Try.ntmps108
  go_wp2
  go_ret
  exact ⟨rfl, M0.out.below⟩
set_option maxHeartbeats 4000000 in
set_option maxRecDepth 100000 in
theorem names_x_0 (n : Node) (cs : List Value) (w : World) (hk : kNodeI.K w n cs) (hnum : 0 ≤ n.num ∧ n.num < 18446744073709551616) (hkind : ∀ c : Int, c ∈ ([1, 2, 6, 20, 21, 27, 13, 12, 29] : List Int) → ¬ n.kind = c) (hz : (n.num == 0) = false) : Calls Try.prog 108 #[.agg ⟨cs⟩] w fun e w' => e = .returned (.bool false) ∧ Below w.heap.size w w' := by
  obtain ⟨A4, c4, A5, c5, rfl, g4, g5⟩ := node_openI hk
  have hl4 : n.list.length ≤ 9223372036854775807 := g4.2.1; have hl5 : n.names.length ≤ 9223372036854775807 := g5.2.1
  have e1 : (n.kind == 1) = false := by have := hkind 1 (by decide); simp [this]
  have m1 : (n.kind != 1) = true := by have := hkind 1 (by decide); simp [bne, this]
  have e2 : (n.kind == 2) = false := by have := hkind 2 (by decide); simp [this]
  have m2 : (n.kind != 2) = true := by have := hkind 2 (by decide); simp [bne, this]
  have e6 : (n.kind == 6) = false := by have := hkind 6 (by decide); simp [this]
  have m6 : (n.kind != 6) = true := by have := hkind 6 (by decide); simp [bne, this]
  have e20 : (n.kind == 20) = false := by have := hkind 20 (by decide); simp [this]
  have m20 : (n.kind != 20) = true := by have := hkind 20 (by decide); simp [bne, this]
  have e21 : (n.kind == 21) = false := by have := hkind 21 (by decide); simp [this]
  have m21 : (n.kind != 21) = true := by have := hkind 21 (by decide); simp [bne, this]
  have e27 : (n.kind == 27) = false := by have := hkind 27 (by decide); simp [this]
  have m27 : (n.kind != 27) = true := by have := hkind 27 (by decide); simp [bne, this]
  have e13 : (n.kind == 13) = false := by have := hkind 13 (by decide); simp [this]
  have m13 : (n.kind != 13) = true := by have := hkind 13 (by decide); simp [bne, this]
  have e12 : (n.kind == 12) = false := by have := hkind 12 (by decide); simp [this]
  have m12 : (n.kind != 12) = true := by have := hkind 12 (by decide); simp [bne, this]
  have e29 : (n.kind == 29) = false := by have := hkind 29 (by decide); simp [this]
  have m29 : (n.kind != 29) = true := by have := hkind 29 (by decide); simp [bne, this]
  have hz2 : (n.num != 0) = true := by simp [bne, hz]
  clear hk hkind
  have G5 := Aside0.mk g5; clear g4 g5; have HNUM := Aside0.mk hnum; clear hnum
  have M0 := Aside0.mk ((Mem.start w).allocAt rfl #[.int .i64 n.kind, .int .i64 n.a, .int .i64 n.b, .int .i64 n.c, .slice A4 n.list.length c4, .slice A5 n.names.length c5, .int .u64 n.num, .int .i64 n.at_] 142)
  have zn := M0.out.box (.head _)
  have hun := Try.underlying142
  go_enter Try.func108, Try.ntmps108
  go_wp2
  go_ret
  exact ⟨by first | rfl | simp [*], by first | exact M0.out.below | exact pw_below_drewN M0.out.below _⟩
set_option maxHeartbeats 4000000 in
set_option maxRecDepth 100000 in
theorem names_x_1 (n : Node) (cs : List Value) (w : World) (hk : kNodeI.K w n cs) (hnum : 0 ≤ n.num ∧ n.num < 18446744073709551616) (hkind : ∀ c : Int, c ∈ ([1, 2, 6, 20, 21, 27, 13, 12, 29] : List Int) → ¬ n.kind = c) (hz : (n.num == 0) = true) (hl : (0 : Int) < (n.list.length : Int)) : Calls Try.prog 108 #[.agg ⟨cs⟩] w fun e w' => e = .returned (.bool false) ∧ Below w.heap.size w w' := by
  obtain ⟨A4, c4, A5, c5, rfl, g4, g5⟩ := node_openI hk
  have hl4 : n.list.length ≤ 9223372036854775807 := g4.2.1; have hl5 : n.names.length ≤ 9223372036854775807 := g5.2.1
  have e1 : (n.kind == 1) = false := by have := hkind 1 (by decide); simp [this]
  have m1 : (n.kind != 1) = true := by have := hkind 1 (by decide); simp [bne, this]
  have e2 : (n.kind == 2) = false := by have := hkind 2 (by decide); simp [this]
  have m2 : (n.kind != 2) = true := by have := hkind 2 (by decide); simp [bne, this]
  have e6 : (n.kind == 6) = false := by have := hkind 6 (by decide); simp [this]
  have m6 : (n.kind != 6) = true := by have := hkind 6 (by decide); simp [bne, this]
  have e20 : (n.kind == 20) = false := by have := hkind 20 (by decide); simp [this]
  have m20 : (n.kind != 20) = true := by have := hkind 20 (by decide); simp [bne, this]
  have e21 : (n.kind == 21) = false := by have := hkind 21 (by decide); simp [this]
  have m21 : (n.kind != 21) = true := by have := hkind 21 (by decide); simp [bne, this]
  have e27 : (n.kind == 27) = false := by have := hkind 27 (by decide); simp [this]
  have m27 : (n.kind != 27) = true := by have := hkind 27 (by decide); simp [bne, this]
  have e13 : (n.kind == 13) = false := by have := hkind 13 (by decide); simp [this]
  have m13 : (n.kind != 13) = true := by have := hkind 13 (by decide); simp [bne, this]
  have e12 : (n.kind == 12) = false := by have := hkind 12 (by decide); simp [this]
  have m12 : (n.kind != 12) = true := by have := hkind 12 (by decide); simp [bne, this]
  have e29 : (n.kind == 29) = false := by have := hkind 29 (by decide); simp [this]
  have m29 : (n.kind != 29) = true := by have := hkind 29 (by decide); simp [bne, this]
  have hz2 : (n.num != 0) = false := by simp [bne, hz]
  clear hk hkind
  have G5 := Aside0.mk g5; clear g4 g5; have HNUM := Aside0.mk hnum; clear hnum
  have M0 := Aside0.mk ((Mem.start w).allocAt rfl #[.int .i64 n.kind, .int .i64 n.a, .int .i64 n.b, .int .i64 n.c, .slice A4 n.list.length c4, .slice A5 n.names.length c5, .int .u64 n.num, .int .i64 n.at_] 142)
  have zn := M0.out.box (.head _)
  have hun := Try.underlying142
  go_enter Try.func108, Try.ntmps108
  go_wp2
  go_ret
  exact ⟨by first | rfl | simp [*], by first | exact M0.out.below | exact pw_below_drewN M0.out.below _⟩
set_option maxHeartbeats 4000000 in
set_option maxRecDepth 100000 in
theorem names_x_2 (n : Node) (cs : List Value) (w : World) (hk : kNodeI.K w n cs) (hnum : 0 ≤ n.num ∧ n.num < 18446744073709551616) (hkind : ∀ c : Int, c ∈ ([1, 2, 6, 20, 21, 27, 13, 12, 29] : List Int) → ¬ n.kind = c) (hz : (n.num == 0) = true) (hl : ¬ (0 : Int) < (n.list.length : Int)) : Calls Try.prog 108 #[.agg ⟨cs⟩] w fun e w' => e = .returned (.bool ((n.names.length : Int) == 0)) ∧ Below w.heap.size w w' := by
  obtain ⟨A4, c4, A5, c5, rfl, g4, g5⟩ := node_openI hk
  have hl4 : n.list.length ≤ 9223372036854775807 := g4.2.1; have hl5 : n.names.length ≤ 9223372036854775807 := g5.2.1
  have e1 : (n.kind == 1) = false := by have := hkind 1 (by decide); simp [this]
  have m1 : (n.kind != 1) = true := by have := hkind 1 (by decide); simp [bne, this]
  have e2 : (n.kind == 2) = false := by have := hkind 2 (by decide); simp [this]
  have m2 : (n.kind != 2) = true := by have := hkind 2 (by decide); simp [bne, this]
  have e6 : (n.kind == 6) = false := by have := hkind 6 (by decide); simp [this]
  have m6 : (n.kind != 6) = true := by have := hkind 6 (by decide); simp [bne, this]
  have e20 : (n.kind == 20) = false := by have := hkind 20 (by decide); simp [this]
  have m20 : (n.kind != 20) = true := by have := hkind 20 (by decide); simp [bne, this]
  have e21 : (n.kind == 21) = false := by have := hkind 21 (by decide); simp [this]
  have m21 : (n.kind != 21) = true := by have := hkind 21 (by decide); simp [bne, this]
  have e27 : (n.kind == 27) = false := by have := hkind 27 (by decide); simp [this]
  have m27 : (n.kind != 27) = true := by have := hkind 27 (by decide); simp [bne, this]
  have e13 : (n.kind == 13) = false := by have := hkind 13 (by decide); simp [this]
  have m13 : (n.kind != 13) = true := by have := hkind 13 (by decide); simp [bne, this]
  have e12 : (n.kind == 12) = false := by have := hkind 12 (by decide); simp [this]
  have m12 : (n.kind != 12) = true := by have := hkind 12 (by decide); simp [bne, this]
  have e29 : (n.kind == 29) = false := by have := hkind 29 (by decide); simp [this]
  have m29 : (n.kind != 29) = true := by have := hkind 29 (by decide); simp [bne, this]
  have hz2 : (n.num != 0) = false := by simp [bne, hz]
  clear hk hkind
  have G5 := Aside0.mk g5; clear g4 g5; have HNUM := Aside0.mk hnum; clear hnum
  have M0 := Aside0.mk ((Mem.start w).allocAt rfl #[.int .i64 n.kind, .int .i64 n.a, .int .i64 n.b, .int .i64 n.c, .slice A4 n.list.length c4, .slice A5 n.names.length c5, .int .u64 n.num, .int .i64 n.at_] 142)
  have zn := M0.out.box (.head _)
  have hun := Try.underlying142
  go_enter Try.func108, Try.ntmps108
  go_wp2
  go_ret
  exact ⟨rfl, M0.out.below⟩
end Go.Proofs.Ytlhfhfamifmijaa.LeafN
end
section
namespace Go.Proofs.Ytlhfhfamifmijaa.LeafN
open Go.RowKit Go.Proofs.YtlhfhfamifmijaaW.PrintWords Go.Proofs.YtlhfhfamifmijaaW.PrintMore Go.Proofs.Ytlhfhfamifmijaa.Law Go.Proofs.Ytlhfhfamifmijaa.Num Go.Proofs.Ytlhfhfamifmijaa
set_option linter.unusedVariables false
set_option linter.unusedSimpArgs false
set_option autoImplicit false
theorem cNames (n : Node) (cs : List Value) (w : World) (hk : kNodeI.K w n cs) (hnum : 0 ≤ n.num ∧ n.num < 18446744073709551616) : Calls Try.prog 108 #[.agg ⟨cs⟩] w fun e w' => e = .returned (.bool (namesB n)) ∧ Below w.heap.size w w' := by
  have hkinds : n.kind = 1 ∨ n.kind = 2 ∨ n.kind = 6 ∨ n.kind = 20 ∨ n.kind = 21 ∨ n.kind = 27 ∨ n.kind = 13 ∨ n.kind = 12 ∨ n.kind = 29 ∨ (∀ c : Int, c ∈ ([1, 2, 6, 20, 21, 27, 13, 12, 29] : List Int) → ¬ n.kind = c) := by
    by_cases hr : n.kind = 1 ∨ n.kind = 2 ∨ n.kind = 6 ∨ n.kind = 20 ∨ n.kind = 21 ∨ n.kind = 27 ∨ n.kind = 13 ∨ n.kind = 12 ∨ n.kind = 29
    · omega
    · iterate 9 right
      intro c hc
      simp only [List.mem_cons, List.not_mem_nil, or_false] at hc
      omega
  rcases hkinds with hk1 | hk1 | hk1 | hk1 | hk1 | hk1 | hk1 | hk1 | hk1 | hk1
  · skip
    by_cases hl : (0 : Int) < (n.list.length : Int)
    · have hl' : 0 < n.list.length := by omega
      have h := names_1_1 n cs w hk hnum hk1 hl
      rw [show namesB n = false by unfold namesB; simp [hk1, hl']]
      exact h
    have hl' : ¬ 0 < n.list.length := by omega
    have hl'' : n.list = [] := List.eq_nil_of_length_eq_zero (by omega)
    have hfo := fin_ok n.num hnum.1 hnum.2
    rcases Bool.eq_false_or_eq_true ((n.names.length : Int) == 0) with hn | hn
    rotate_left
    · have hn' : ¬ n.names = [] := fun e => by rw [e] at hn; simp at hn
      have h := names_1_2 n cs w hk hnum hk1 hl hn
      rw [show namesB n = false by unfold namesB; simp [hk1, hl'', hn']]
      exact h
    have hn' : n.names = [] := List.eq_nil_of_length_eq_zero (by have h9 : (n.names.length : Int) = 0 := (by simpa using hn); omega)
    rcases Bool.eq_false_or_eq_true (finB n.num) with hf | hf
    · rw [hf, Bool.true_and] at hfo
      have h := names_1_4 n cs w hk hnum hk1 hl hn hf
      rw [show namesB n = (n.num / 9223372036854775808 == 0) by unfold namesB; simp [hk1, hl'', hn', ← hfo]]
      exact h
    rw [hf, Bool.false_and] at hfo
    have h := names_1_3 n cs w hk hnum hk1 hl hn hf
    rw [show namesB n = false by unfold namesB; simp [hk1, hl'', hn', ← hfo]]
    exact h
  · skip
    rcases Bool.eq_false_or_eq_true (n.num == 0) with hz | hz
    rotate_left
    · have hz' : ¬ n.num = 0 := by simpa using hz
      have h := names_2_0 n cs w hk hnum hk1 hz
      rw [show namesB n = false by unfold namesB; simp [hk1, hz']]
      exact h
    have hz' : n.num = 0 := by simpa using hz
    by_cases hl : (0 : Int) < (n.list.length : Int)
    · have hl' : 0 < n.list.length := by omega
      have h := names_2_1 n cs w hk hnum hk1 hz hl
      rw [show namesB n = false by unfold namesB; simp [hk1, hz', hl']]
      exact h
    have hl' : ¬ 0 < n.list.length := by omega
    have hl'' : n.list = [] := List.eq_nil_of_length_eq_zero (by omega)
    rcases Bool.eq_false_or_eq_true ((n.names.length : Int) == 1) with hn | hn
    rotate_left
    · have hn' : ¬ n.names.length = 1 := fun e => by rw [e] at hn; simp at hn
      have h := names_2_2 n cs w hk hnum hk1 hz hl hn
      rw [show namesB n = false by unfold namesB; simp [hk1, hz', hl'', hn']]
      exact h
    have hn' : n.names.length = 1 := by have h9 : (n.names.length : Int) = 1 := (by simpa using hn); omega
    have h := names_2_3 n cs w hk hnum hk1 hz hl hn
    rw [show namesB n = (textOk (el ByteArray.empty n.names 0)) by unfold namesB; simp [hk1, hz', hl'', hn']]
    exact h
  · skip
    rcases Bool.eq_false_or_eq_true (n.num == 0) with hz | hz
    rotate_left
    · have hz' : ¬ n.num = 0 := by simpa using hz
      have h := names_6_0 n cs w hk hnum hk1 hz
      rw [show namesB n = false by unfold namesB; simp [hk1, hz']]
      exact h
    have hz' : n.num = 0 := by simpa using hz
    by_cases hl : (0 : Int) < (n.list.length : Int)
    · have hl' : 0 < n.list.length := by omega
      have h := names_6_1 n cs w hk hnum hk1 hz hl
      rw [show namesB n = false by unfold namesB; simp [hk1, hz', hl']]
      exact h
    have hl' : ¬ 0 < n.list.length := by omega
    have hl'' : n.list = [] := List.eq_nil_of_length_eq_zero (by omega)
    rcases Bool.eq_false_or_eq_true ((n.names.length : Int) == 1) with hn | hn
    rotate_left
    · have hn' : ¬ n.names.length = 1 := fun e => by rw [e] at hn; simp at hn
      have h := names_6_2 n cs w hk hnum hk1 hz hl hn
      rw [show namesB n = false by unfold namesB; simp [hk1, hz', hl'', hn']]
      exact h
    have hn' : n.names.length = 1 := by have h9 : (n.names.length : Int) = 1 := (by simpa using hn); omega
    have h := names_6_3 n cs w hk hnum hk1 hz hl hn
    rw [show namesB n = (nameOk (el ByteArray.empty n.names 0)) by unfold namesB; simp [hk1, hz', hl'', hn']]
    exact h
  · skip
    rcases Bool.eq_false_or_eq_true (n.num == 0) with hz | hz
    rotate_left
    · have hz' : ¬ n.num = 0 := by simpa using hz
      have h := names_20_0 n cs w hk hnum hk1 hz
      rw [show namesB n = false by unfold namesB; simp [hk1, hz']]
      exact h
    have hz' : n.num = 0 := by simpa using hz
    by_cases hl : (0 : Int) < (n.list.length : Int)
    · have hl' : 0 < n.list.length := by omega
      have h := names_20_1 n cs w hk hnum hk1 hz hl
      rw [show namesB n = false by unfold namesB; simp [hk1, hz', hl']]
      exact h
    have hl' : ¬ 0 < n.list.length := by omega
    have hl'' : n.list = [] := List.eq_nil_of_length_eq_zero (by omega)
    rcases Bool.eq_false_or_eq_true ((n.names.length : Int) == 1) with hn | hn
    rotate_left
    · have hn' : ¬ n.names.length = 1 := fun e => by rw [e] at hn; simp at hn
      have h := names_20_2 n cs w hk hnum hk1 hz hl hn
      rw [show namesB n = false by unfold namesB; simp [hk1, hz', hl'', hn']]
      exact h
    have hn' : n.names.length = 1 := by have h9 : (n.names.length : Int) = 1 := (by simpa using hn); omega
    have h := names_20_3 n cs w hk hnum hk1 hz hl hn
    rw [show namesB n = (nameOk (el ByteArray.empty n.names 0)) by unfold namesB; simp [hk1, hz', hl'', hn']]
    exact h
  · skip
    rcases Bool.eq_false_or_eq_true (n.num == 0) with hz | hz
    rotate_left
    · have hz' : ¬ n.num = 0 := by simpa using hz
      have h := names_21_0 n cs w hk hnum hk1 hz
      rw [show namesB n = false by unfold namesB; simp [hk1, hz']]
      exact h
    have hz' : n.num = 0 := by simpa using hz
    by_cases hl : (0 : Int) < (n.list.length : Int)
    · have hl' : 0 < n.list.length := by omega
      have h := names_21_1 n cs w hk hnum hk1 hz hl
      rw [show namesB n = false by unfold namesB; simp [hk1, hz', hl']]
      exact h
    have hl' : ¬ 0 < n.list.length := by omega
    have hl'' : n.list = [] := List.eq_nil_of_length_eq_zero (by omega)
    rcases Bool.eq_false_or_eq_true ((n.names.length : Int) == 1) with hn | hn
    rotate_left
    · have hn' : ¬ n.names.length = 1 := fun e => by rw [e] at hn; simp at hn
      have h := names_21_2 n cs w hk hnum hk1 hz hl hn
      rw [show namesB n = false by unfold namesB; simp [hk1, hz', hl'', hn']]
      exact h
    have hn' : n.names.length = 1 := by have h9 : (n.names.length : Int) = 1 := (by simpa using hn); omega
    have h := names_21_3 n cs w hk hnum hk1 hz hl hn
    rw [show namesB n = (nameOk (el ByteArray.empty n.names 0)) by unfold namesB; simp [hk1, hz', hl'', hn']]
    exact h
  · skip
    rcases Bool.eq_false_or_eq_true (n.num == 0) with hz | hz
    rotate_left
    · have hz' : ¬ n.num = 0 := by simpa using hz
      have h := names_27_0 n cs w hk hnum hk1 hz
      rw [show namesB n = false by unfold namesB; simp [hk1, hz']]
      exact h
    have hz' : n.num = 0 := by simpa using hz
    by_cases hl : (0 : Int) < (n.list.length : Int)
    · have hl' : 0 < n.list.length := by omega
      have h := names_27_1 n cs w hk hnum hk1 hz hl
      rw [show namesB n = false by unfold namesB; simp [hk1, hz', hl']]
      exact h
    have hl' : ¬ 0 < n.list.length := by omega
    have hl'' : n.list = [] := List.eq_nil_of_length_eq_zero (by omega)
    rcases Bool.eq_false_or_eq_true ((n.names.length : Int) == 1) with hn | hn
    rotate_left
    · have hn' : ¬ n.names.length = 1 := fun e => by rw [e] at hn; simp at hn
      have h := names_27_2 n cs w hk hnum hk1 hz hl hn
      rw [show namesB n = false by unfold namesB; simp [hk1, hz', hl'', hn']]
      exact h
    have hn' : n.names.length = 1 := by have h9 : (n.names.length : Int) = 1 := (by simpa using hn); omega
    have h := names_27_3 n cs w hk hnum hk1 hz hl hn
    rw [show namesB n = (nameOk (el ByteArray.empty n.names 0)) by unfold namesB; simp [hk1, hz', hl'', hn']]
    exact h
  · skip
    rcases Bool.eq_false_or_eq_true (n.num == 0) with hz | hz
    rotate_left
    · have hz' : ¬ n.num = 0 := by simpa using hz
      have h := names_13_0 n cs w hk hnum hk1 hz
      rw [show namesB n = false by unfold namesB; simp [hk1, hz']]
      exact h
    have hz' : n.num = 0 := by simpa using hz
    by_cases hl : (0 : Int) < (n.list.length : Int)
    · have hl' : 0 < n.list.length := by omega
      have h := names_13_1 n cs w hk hnum hk1 hz hl
      rw [show namesB n = false by unfold namesB; simp [hk1, hz', hl']]
      exact h
    have hl' : ¬ 0 < n.list.length := by omega
    have hl'' : n.list = [] := List.eq_nil_of_length_eq_zero (by omega)
    by_cases hn : (n.names.length : Int) ≤ 4
    rotate_left
    · have hn' : ¬ n.names.length ≤ 4 := by omega
      have h := names_13_2 n cs w hk hnum hk1 hz hl hn
      rw [show namesB n = false by unfold namesB; simp [hk1, hz', hl'', hn']]
      exact h
    have hn' : n.names.length ≤ 4 := by omega
    have h := names_13_3 n cs w hk hnum hk1 hz hl hn
    rw [show namesB n = (n.names.all nameOk) by unfold namesB; simp [hk1, hz', hl'', hn']]
    exact h
  · skip
    rcases Bool.eq_false_or_eq_true (n.num == 0) with hz | hz
    rotate_left
    · have hz' : ¬ n.num = 0 := by simpa using hz
      have h := names_12_0 n cs w hk hnum hk1 hz
      rw [show namesB n = false by unfold namesB; simp [hk1, hz']]
      exact h
    have hz' : n.num = 0 := by simpa using hz
    have hc : ((n.names.length : Int) == 0) = (n.names.length == 0) := by rcases Nat.eq_zero_or_pos n.names.length with h | h; (rw [h]; rfl); (rw [Bool.eq_iff_iff]; simp; try omega)
    have h := names_12_2 n cs w hk hnum hk1 hz
    rw [hc] at h
    rw [show namesB n = (n.names.length == 0) by unfold namesB; simp [hk1, hz']]
    exact h
  · skip
    rcases Bool.eq_false_or_eq_true (n.num == 0) with hz | hz
    rotate_left
    · have hz' : ¬ n.num = 0 := by simpa using hz
      have h := names_29_0 n cs w hk hnum hk1 hz
      rw [show namesB n = false by unfold namesB; simp [hk1, hz']]
      exact h
    have hz' : n.num = 0 := by simpa using hz
    have hc : ((n.names.length : Int) == 0) = (n.names.length == 0) := by rcases Nat.eq_zero_or_pos n.names.length with h | h; (rw [h]; rfl); (rw [Bool.eq_iff_iff]; simp; try omega)
    have h := names_29_2 n cs w hk hnum hk1 hz
    rw [hc] at h
    rw [show namesB n = (n.names.length == 0) by unfold namesB; simp [hk1, hz']]
    exact h
  · skip
    rcases Bool.eq_false_or_eq_true (n.num == 0) with hz | hz
    rotate_left
    · have hz' : ¬ n.num = 0 := by simpa using hz
      have h := names_x_0 n cs w hk hnum hk1 hz
      rw [show namesB n = false by unfold namesB; simp [hk1 1 (by decide), hk1 2 (by decide), hk1 6 (by decide), hk1 20 (by decide), hk1 21 (by decide), hk1 27 (by decide), hk1 13 (by decide), hk1 12 (by decide), hk1 29 (by decide), hz']]
      exact h
    have hz' : n.num = 0 := by simpa using hz
    by_cases hl : (0 : Int) < (n.list.length : Int)
    · have hl' : 0 < n.list.length := by omega
      have h := names_x_1 n cs w hk hnum hk1 hz hl
      rw [show namesB n = false by unfold namesB; simp [hk1 1 (by decide), hk1 2 (by decide), hk1 6 (by decide), hk1 20 (by decide), hk1 21 (by decide), hk1 27 (by decide), hk1 13 (by decide), hk1 12 (by decide), hk1 29 (by decide), hz', hl']]
      exact h
    have hl' : ¬ 0 < n.list.length := by omega
    have hl'' : n.list = [] := List.eq_nil_of_length_eq_zero (by omega)
    have hc : ((n.names.length : Int) == 0) = (n.names.length == 0) := by rcases Nat.eq_zero_or_pos n.names.length with h | h; (rw [h]; rfl); (rw [Bool.eq_iff_iff]; simp; try omega)
    have h := names_x_2 n cs w hk hnum hk1 hz hl
    rw [hc] at h
    rw [show namesB n = (n.names.length == 0) by unfold namesB; simp [hk1 1 (by decide), hk1 2 (by decide), hk1 6 (by decide), hk1 20 (by decide), hk1 21 (by decide), hk1 27 (by decide), hk1 13 (by decide), hk1 12 (by decide), hk1 29 (by decide), hz', hl'']]
    exact h
end Go.Proofs.Ytlhfhfamifmijaa.LeafN
end
