/- The law 'FnExactShowIns' returns true, whatever it is handed. It asks that the table of blanks is what it is at start-up. -/
import Derived.Test.YtkgdjhhokbbheaaDoorShowS
import Derived.Test.YtkgdjhhokbbheaaDoorShowI
namespace Go.Proofs.YtkgdjhhokbbheaaDoor.LawFnExactShowIns
open Go.RowKit Go.Proofs.YtkgdjhhokbbheaaDoorW.PrintWords Go.Proofs.YtkgdjhhokbbheaaDoorW.PrintMore Go.Proofs.YtkgdjhhokbbheaaDoor.Law Go.Proofs.YtkgdjhhokbbheaaDoor Go.Proofs.YtkgdjhhokbbheaaDoor.QFnExactShowIns Go.Proofs.YtkgdjhhokbbheaaDoor.Show
set_option linter.unusedVariables false
set_option linter.unusedSimpArgs false
set_option autoImplicit false
theorem wf_i64 {n : Int} (h : (Lit.int .i64 n).wf = true) : -9223372036854775808 ≤ n ∧ n ≤ 9223372036854775807 := by
  simp only [Lit.wf, Bool.and_eq_true, decide_eq_true_eq] at h
  have h1 : IntKind.i64.min = -9223372036854775808 := rfl
  have h2 : IntKind.i64.max = 9223372036854775807 := rfl
  omega
theorem tab_below {P : Program} {w W : World} {name : String} {k : IntKind} {zs : List Int} (h : Lib.TabIs P w name k zs) (hb : Below w.heap.size w W) : Lib.TabIs P W name k zs := by
  unfold Lib.TabIs World.var? at h ⊢
  cases hg : P.globalNamed name with
  | none => rw [hg] at h; simp at h
  | some g =>
    rw [hg] at h
    simp only [Option.bind_some] at h ⊢
    have hlt : g < w.heap.size := by
      apply Nat.lt_of_not_le
      intro hle
      rw [Array.getElem?_eq_none hle] at h
      simp at h
    rw [hb.block g hlt]
    exact h
set_option maxHeartbeats 8000000 in
set_option maxRecDepth 100000 in
theorem law (op a b : Int) (w : World) (g : (Lit.int .i64 op).wf = true ∧ (Lit.int .i64 a).wf = true ∧ (Lit.int .i64 b).wf = true) (htab : Lib.TabIs Tryd.prog w "strings.asciiSpace" .u8 Lib.asciiSpaceTab) :
    Calls Tryd.prog 3 #[.agg #[.int .i64 op, .int .i64 a, .int .i64 b]] w fun e w' => e = .returned (.bool true) ∧ Below w.heap.size w w' := by
  have GA := Aside0.mk (wf_i64 g.2.1); have GB := Aside0.mk (wf_i64 g.2.2)
  have HT := Aside0.mk htab
  clear g htab
  have hu := Tryd.underlying23; have hu2 := Tryd.underlying25
  have M0 := Aside0.mk ((Mem.start w).allocAt rfl #[.int .i64 op, .int .i64 a, .int .i64 b] 23)
  obtain ⟨s, hs⟩ : ∃ s, s = showB op a b := ⟨_, rfl⟩
  have HS := Aside0.mk hs; clear hs
  have hr1 : (s.toList != s.toList) = false := by simp
  have hr2 : (s.toList == s.toList) = true := by simp
  go_enter Tryd.func3, Tryd.ntmps3
  go_wp2_with fail
  refine (laws_toIns.calls op a b op a b _ rfl).mono ?_; rintro e w1 ⟨rfl, hb⟩
  have M1 := Aside0.mk (M0.out.step hb); clear hb M0
  have z := M1.out.box (.head _)
  go_wp2_with fail
  clear z
  refine (cShowS op a b _ GA.out GB.out).mono ?_; rintro e w2 ⟨rfl, hb⟩
  have M2 := Aside0.mk (M1.out.step hb); clear hb M1
  rw [← HS.out]
  have z := M2.out.box (.head _)
  go_wp2_with fail
  clear z
  refine (laws_toIns.calls op a b op a b _ rfl).mono ?_; rintro e w3 ⟨rfl, hb⟩
  have M3 := Aside0.mk (M2.out.step hb); clear hb M2
  have z := M3.out.box (.head _)
  go_wp2_with fail
  clear z
  refine (cShowI op a b _ GA.out GB.out (fun W hW => tab_below HT.out (below_step M3.out.below hW))).mono ?_; rintro e w4 ⟨rfl, hb⟩
  have M4 := Aside0.mk (M3.out.step hb); clear hb M3
  rw [← HS.out]
  go_wp2
  go_ret
  exact ⟨rfl, M4.out.below⟩
end Go.Proofs.YtkgdjhhokbbheaaDoor.LawFnExactShowIns
