/- The row of 'FnExactDoMinus': for every input the law returns true, and each argument reads behind the call as it read before. No condition. -/
import Derived.Test.YtdgjbpefbkgnpaaRows
import Derived.Test.YtdgjbpefbkgnpaaQFnExactDoMinusx2
import Derived.Test.YtdgjbpefbkgnpaaPureFnExactDoMinus
import Derived.Test.YtdgjbpefbkgnpaaOpen
import Derived.WalkKit
import Derived.ProofKit
import Derived.OpenShut
import Derived.ShutString
import Derived.ChangeOld
import Derived.Below
import Derived.SizedLaws
namespace Go.Proofs.Ytdgjbpefbkgnpaa.fnExactDoMinus
open Go.ChangeShapes Go.WideShapes Go.ChangeAt Go.RowKit Go.Proofs.YtdgjbpefbkgnpaaW.PrintWords Go.Proofs.Ytdgjbpefbkgnpaa.Open
open Go.ChangeMaps (open_string shut_string)
set_option linter.unusedVariables false
theorem own : ownKnob Try.prog.godebug = none := by kernel_rfl
theorem laidOut : laidOutB Try.prog = true := by kernel_rfl
def G3 (n : Int) : Prop := (Lit.int .i64 n).wf = true
theorem op3 {H : Type} {enc : TypeId × Value → H} {w : World} {base : Nat} {spare : Nat → Bool} {held : Bool} : Opens enc Try.prog w base spare held 3 (Kd.int .i64) G3 := opens_int Try.underlying3
def G22 (n : Int) : Prop := (Lit.int .u64 n).wf = true
theorem op22 {H : Type} {enc : TypeId × Value → H} {w : World} {base : Nat} {spare : Nat → Bool} {held : Bool} : Opens enc Try.prog w base spare held 22 (Kd.int .u64) G22 := opens_int Try.underlying22
def G9 (s : ByteArray) : Prop := s.size ≤ maxLen
theorem op9 {H : Type} {enc : TypeId × Value → H} {w : World} {base : Nat} {spare : Nat → Bool} {held : Bool} : Opens enc Try.prog w base spare held 9 Kd.string G9 := opens_string Try.underlying9
def Gt24 (x : Int × Int × ByteArray × Int) : Prop := G3 x.1 ∧ G22 x.2.1 ∧ G9 x.2.2.1 ∧ G3 x.2.2.2
abbrev G24 := Gt24
theorem op24 {H : Type} {enc : TypeId × Value → H} {w : World} {base : Nat} {spare : Nat → Bool} {held : Bool} : Opens enc Try.prog w base spare held 24 (Kd.pair (Kd.int .i64) (Kd.pair (Kd.int .u64) (Kd.pair Kd.string (Kd.int .i64)))) G24 := opens_struct Try.underlying24 (by kernel_rfl) (fields_cons rfl (by kernel_rfl) op3 (fields_cons rfl (by kernel_rfl) op22 (fields_cons rfl (by kernel_rfl) op9 (fields_one rfl (by kernel_rfl) op3))))
set_option maxRecDepth 100000 in
theorem lifted (os : Os) (started : os.Started) (H : Type) (enc : TypeId × Value → H) :
    ReturnsInHanded {} Try.checked os 6 .any (Rows.fnExactDoMinusSpec.pre6 enc Try.prog Try.f6 Rows.fnExactDoMinusRow.domain false) (Rows.fnExactDoMinusSpec.post enc Try.prog Try.f6 false true false false) := by
  refine returnsInHanded_of_change_sized (C := Try.checked) own started (by kernel_rfl) Try.func6
    (ChangeSpec.witness6 (enc := enc) (C := Try.checked) false ⟨#[], #[.agg #[.int .i64 0, .int .u64 0, .string ⟨#[]⟩, .int .i64 0]], []⟩ 8 (by kernel_rfl) (by kernel_rfl) (by kernel_rfl) (by kernel_rfl)) ?_
  intro W base args ds gs before hval0 hW hcnd hsz0 _
  have hval : ∀ (j : Nat) t v, Try.f6.params[j]? = some t → args[j]? = some v → Value.okWide Try.prog W .any base t v := hval0
  have hW' := hW
  obtain ⟨p, q, hA0, hV, rfl, hfz, hnd⟩ := hW
  have hA : DataW.TrodAll enc Try.prog W 0 (fun _ => true) true Try.f6.params.toList args.toList ds p := hA0
  rw [Try.params6] at hA hval
  obtain ⟨v0, vs0, d0, ds0, p0, q0, hargs0, rfl, rfl, h0, r0⟩ := trodAll_cons hA
  obtain ⟨rfl, rfl, rfl⟩ := trodAll_nil r0
  obtain rfl : args = #[v0] := by cases args; simp_all
  obtain ⟨rfl, rfl⟩ := trodVars_none hV
  have k0 := h0
  have lt0 : ∀ x ∈ p0, x.block < W.heap.size := by obtain ⟨m, hm⟩ := k0; exact DataW.trod_lt m _ _ _ hm
  obtain ⟨cs0, rfl, hcz0⟩ := okWide_struct Try.underlying24 (hval 0 24 v0 rfl rfl)
  obtain ⟨x0, hk0, hg0⟩ := opens_arg op24 h0
  obtain ⟨x0_0, x0_1, x0_2, x0_3⟩ := x0
  obtain ⟨_, _, e0, rfl, ⟨_, _, rfl, rfl, ⟨_, _, rfl, rfl, rfl⟩⟩⟩ := hk0
  obtain rfl : cs0 = #[.int .i64 x0_0, .int .u64 x0_1, .string x0_2, .int .i64 x0_3] := by obtain ⟨l⟩ := cs0; exact congrArg Array.mk e0
  clear hA0 hval0 hsz0
  obtain ⟨k, hk⟩ := Pure.FnExactDoMinus x0_0 x0_1 x0_2 x0_3 hg0
  refine (QFnExactDoMinus.laws_FnExactDoMinus.calls k x0_0 x0_1 x0_2 x0_3 true W  hk).mono fun e W' ⟨he, bel⟩ => ?_
  subst he
  exact ⟨_, rfl, _, _, _, [], _, [], hW', trodAll_mk1 (shut_bool Try.underlying4 _), (trodAll_cons_mk (Below.trod laidOut (by kernel_rfl) (of_decide_eq_true (by kernel_rfl)) k0 bel lt0) trodAll_mk0), rfl, bel.frame _, fun h => by cases h⟩
theorem over : Rows.fnExactDoMinusRow.holds Try.pinned (OpenSpec.ofChange Rows.fnExactDoMinusSpec) :=
  OpenClaim.holds_of_wide 6 Try.f6 rfl rfl rfl rfl rfl rfl rfl ⟨rfl, rfl, rfl, rfl, rfl⟩ rfl rfl rfl rfl rfl (by kernel_rfl) Try.func6 (by kernel_rfl)
    (of_decide_eq_true (by kernel_rfl)) (by unfold Func.isWrapper; first | (rw [if_pos (by decide +kernel)]; kernel_rfl) | (rw [if_neg (by decide +kernel)]; exact ⟨rfl, rfl⟩))
    (fun os started H enc _ => lifted os started H enc)
theorem proved : Rows.FnExactDoMinusSaid := over
#print axioms proved
end Go.Proofs.Ytdgjbpefbkgnpaa.fnExactDoMinus
namespace Go.Proofs.Ytdgjbpefbkgnpaa
/-- The row, under a short name, for the claim. -/
theorem fnExactDoMinus_holds : Rows.FnExactDoMinusSaid := fnExactDoMinus.proved
end Go.Proofs.Ytdgjbpefbkgnpaa
