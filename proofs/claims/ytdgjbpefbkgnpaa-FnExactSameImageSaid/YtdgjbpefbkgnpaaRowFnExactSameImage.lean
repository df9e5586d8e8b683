/- The row of 'FnExactSameImage': for every input the law returns true, and each argument reads behind the call as it read before. No condition. -/
import Derived.Test.YtdgjbpefbkgnpaaRows
import Derived.Test.YtdgjbpefbkgnpaaLawFnExactSameImage
import Derived.Test.YtdgjbpefbkgnpaaOpen
import Derived.WalkKit
import Derived.ProofKit
import Derived.OpenShut
import Derived.ShutString
import Derived.ChangeOld
import Derived.Below
import Derived.SizedLaws
namespace Go.Proofs.Ytdgjbpefbkgnpaa.fnExactSameImage
open Go.ChangeShapes Go.WideShapes Go.ChangeAt Go.RowKit Go.Proofs.YtdgjbpefbkgnpaaW.PrintWords Go.Proofs.Ytdgjbpefbkgnpaa.Open
open Go.ChangeMaps (open_string shut_string)
set_option linter.unusedVariables false
set_option linter.unusedSimpArgs false
theorem own : ownKnob Try.prog.godebug = none := by kernel_rfl
theorem laidOut : laidOutB Try.prog = true := by kernel_rfl
def G3 (n : Int) : Prop := (Lit.int .i64 n).wf = true
theorem op3 {H : Type} {enc : TypeId × Value → H} {w : World} {base : Nat} {spare : Nat → Bool} {held : Bool} : Opens enc Try.prog w base spare held 3 (Kd.int .i64) G3 := opens_int Try.underlying3
def G4 (_ : Bool) : Prop := True
theorem op4 {H : Type} {enc : TypeId × Value → H} {w : World} {base : Nat} {spare : Nat → Bool} {held : Bool} : Opens enc Try.prog w base spare held 4 Kd.bool G4 := opens_bool Try.underlying4
def Gt179 (x : Bool × Int) : Prop := G4 x.1 ∧ G3 x.2
theorem opt179 {H : Type} {enc : TypeId × Value → H} {w : World} {base : Nat} {spare : Nat → Bool} {held : Bool} : Opens enc Try.prog w base spare held 179 (Kd.pair Kd.bool (Kd.int .i64)) Gt179 := opens_struct Try.underlying179 (by kernel_rfl) (fields_cons rfl (by kernel_rfl) op4 (fields_one rfl (by kernel_rfl) op3))
def G179 (x : Go.Proofs.Ytdgjbpefbkgnpaa.Cap) : Prop := Gt179 (x.reg, x.index)
theorem op179 {H : Type} {enc : TypeId × Value → H} {w : World} {base : Nat} {spare : Nat → Bool} {held : Bool} : Opens enc Try.prog w base spare held 179 Go.Proofs.Ytdgjbpefbkgnpaa.kCap G179 := opens_iso (fun x : Go.Proofs.Ytdgjbpefbkgnpaa.Cap => (x.reg, x.index)) (fun t => ⟨t.1, t.2⟩) (fun _ => rfl) opt179
def G150 (xs : List Go.Proofs.Ytdgjbpefbkgnpaa.Cap) : Prop := xs.length ≤ maxLen ∧ ∀ x ∈ xs, G179 x
theorem op150 {H : Type} {enc : TypeId × Value → H} {w : World} {base : Nat} {spare : Nat → Bool} {held : Bool} : Opens enc Try.prog w base spare held 150 (Kd.slice 179 Go.Proofs.Ytdgjbpefbkgnpaa.kCap) G150 := opens_slice Try.underlying150 (by kernel_rfl) op179
def Gt181 (x : Int × Int × Int) : Prop := G3 x.1 ∧ G3 x.2.1 ∧ G3 x.2.2
theorem opt181 {H : Type} {enc : TypeId × Value → H} {w : World} {base : Nat} {spare : Nat → Bool} {held : Bool} : Opens enc Try.prog w base spare held 181 (Kd.pair (Kd.int .i64) (Kd.pair (Kd.int .i64) (Kd.int .i64))) Gt181 := opens_struct Try.underlying181 (by kernel_rfl) (fields_cons rfl (by kernel_rfl) op3 (fields_cons rfl (by kernel_rfl) op3 (fields_one rfl (by kernel_rfl) op3)))
def G181 (x : Go.Proofs.Ytdgjbpefbkgnpaa.Ins) : Prop := Gt181 (x.op, x.a, x.b)
theorem op181 {H : Type} {enc : TypeId × Value → H} {w : World} {base : Nat} {spare : Nat → Bool} {held : Bool} : Opens enc Try.prog w base spare held 181 Go.Proofs.Ytdgjbpefbkgnpaa.kIns G181 := opens_iso (fun x : Go.Proofs.Ytdgjbpefbkgnpaa.Ins => (x.op, x.a, x.b)) (fun t => ⟨t.1, t.2.1, t.2.2⟩) (fun _ => rfl) opt181
def G151 (xs : List Go.Proofs.Ytdgjbpefbkgnpaa.Ins) : Prop := xs.length ≤ maxLen ∧ ∀ x ∈ xs, G181 x
theorem op151 {H : Type} {enc : TypeId × Value → H} {w : World} {base : Nat} {spare : Nat → Bool} {held : Bool} : Opens enc Try.prog w base spare held 151 (Kd.slice 181 Go.Proofs.Ytdgjbpefbkgnpaa.kIns) G151 := opens_slice Try.underlying151 (by kernel_rfl) op181
def Gt183 (x : Int × Int × Int) : Prop := G3 x.1 ∧ G3 x.2.1 ∧ G3 x.2.2
theorem opt183 {H : Type} {enc : TypeId × Value → H} {w : World} {base : Nat} {spare : Nat → Bool} {held : Bool} : Opens enc Try.prog w base spare held 183 (Kd.pair (Kd.int .i64) (Kd.pair (Kd.int .i64) (Kd.int .i64))) Gt183 := opens_struct Try.underlying183 (by kernel_rfl) (fields_cons rfl (by kernel_rfl) op3 (fields_cons rfl (by kernel_rfl) op3 (fields_one rfl (by kernel_rfl) op3)))
def G183 (x : Go.Proofs.Ytdgjbpefbkgnpaa.Handler) : Prop := Gt183 (x.from_, x.to_, x.target)
theorem op183 {H : Type} {enc : TypeId × Value → H} {w : World} {base : Nat} {spare : Nat → Bool} {held : Bool} : Opens enc Try.prog w base spare held 183 Go.Proofs.Ytdgjbpefbkgnpaa.kHandler G183 := opens_iso (fun x : Go.Proofs.Ytdgjbpefbkgnpaa.Handler => (x.from_, x.to_, x.target)) (fun t => ⟨t.1, t.2.1, t.2.2⟩) (fun _ => rfl) opt183
def G152 (xs : List Go.Proofs.Ytdgjbpefbkgnpaa.Handler) : Prop := xs.length ≤ maxLen ∧ ∀ x ∈ xs, G183 x
theorem op152 {H : Type} {enc : TypeId × Value → H} {w : World} {base : Nat} {spare : Nat → Bool} {held : Bool} : Opens enc Try.prog w base spare held 152 (Kd.slice 183 Go.Proofs.Ytdgjbpefbkgnpaa.kHandler) G152 := opens_slice Try.underlying152 (by kernel_rfl) op183
def Gt154 (x : Int × Int × (List Go.Proofs.Ytdgjbpefbkgnpaa.Cap) × (List Go.Proofs.Ytdgjbpefbkgnpaa.Ins) × (List Go.Proofs.Ytdgjbpefbkgnpaa.Handler)) : Prop := G3 x.1 ∧ G3 x.2.1 ∧ G150 x.2.2.1 ∧ G151 x.2.2.2.1 ∧ G152 x.2.2.2.2
theorem opt154 {H : Type} {enc : TypeId × Value → H} {w : World} {base : Nat} {spare : Nat → Bool} {held : Bool} : Opens enc Try.prog w base spare held 154 (Kd.pair (Kd.int .i64) (Kd.pair (Kd.int .i64) (Kd.pair (Kd.slice 179 Go.Proofs.Ytdgjbpefbkgnpaa.kCap) (Kd.pair (Kd.slice 181 Go.Proofs.Ytdgjbpefbkgnpaa.kIns) (Kd.slice 183 Go.Proofs.Ytdgjbpefbkgnpaa.kHandler))))) Gt154 := opens_struct Try.underlying154 (by kernel_rfl) (fields_cons rfl (by kernel_rfl) op3 (fields_cons rfl (by kernel_rfl) op3 (fields_cons rfl (by kernel_rfl) op150 (fields_cons rfl (by kernel_rfl) op151 (fields_one rfl (by kernel_rfl) op152)))))
def G154 (x : Go.Proofs.Ytdgjbpefbkgnpaa.Func) : Prop := Gt154 (x.params, x.regs, x.caps, x.code, x.handlers)
theorem op154 {H : Type} {enc : TypeId × Value → H} {w : World} {base : Nat} {spare : Nat → Bool} {held : Bool} : Opens enc Try.prog w base spare held 154 Go.Proofs.Ytdgjbpefbkgnpaa.kFuncL G154 := opens_iso (fun x : Go.Proofs.Ytdgjbpefbkgnpaa.Func => (x.params, x.regs, x.caps, x.code, x.handlers)) (fun t => ⟨t.1, t.2.1, t.2.2.1, t.2.2.2.1, t.2.2.2.2⟩) (fun _ => rfl) opt154
def G65 (xs : List Go.Proofs.Ytdgjbpefbkgnpaa.Func) : Prop := xs.length ≤ maxLen ∧ ∀ x ∈ xs, G154 x
theorem op65 {H : Type} {enc : TypeId × Value → H} {w : World} {base : Nat} {spare : Nat → Bool} {held : Bool} : Opens enc Try.prog w base spare held 65 (Kd.slice 154 Go.Proofs.Ytdgjbpefbkgnpaa.kFuncL) G65 := opens_slice Try.underlying65 (by kernel_rfl) op154
def G22 (n : Int) : Prop := (Lit.int .u64 n).wf = true
theorem op22 {H : Type} {enc : TypeId × Value → H} {w : World} {base : Nat} {spare : Nat → Bool} {held : Bool} : Opens enc Try.prog w base spare held 22 (Kd.int .u64) G22 := opens_int Try.underlying22
def G9 (s : ByteArray) : Prop := s.size ≤ maxLen
theorem op9 {H : Type} {enc : TypeId × Value → H} {w : World} {base : Nat} {spare : Nat → Bool} {held : Bool} : Opens enc Try.prog w base spare held 9 Kd.string G9 := opens_string Try.underlying9
def Gt156 (x : Int × Int × ByteArray) : Prop := G3 x.1 ∧ G22 x.2.1 ∧ G9 x.2.2
theorem opt156 {H : Type} {enc : TypeId × Value → H} {w : World} {base : Nat} {spare : Nat → Bool} {held : Bool} : Opens enc Try.prog w base spare held 156 (Kd.pair (Kd.int .i64) (Kd.pair (Kd.int .u64) Kd.string)) Gt156 := opens_struct Try.underlying156 (by kernel_rfl) (fields_cons rfl (by kernel_rfl) op3 (fields_cons rfl (by kernel_rfl) op22 (fields_one rfl (by kernel_rfl) op9)))
def G156 (x : Go.Proofs.Ytdgjbpefbkgnpaa.Const) : Prop := Gt156 (x.kind, x.num, x.text)
theorem op156 {H : Type} {enc : TypeId × Value → H} {w : World} {base : Nat} {spare : Nat → Bool} {held : Bool} : Opens enc Try.prog w base spare held 156 Go.Proofs.Ytdgjbpefbkgnpaa.kConst G156 := opens_iso (fun x : Go.Proofs.Ytdgjbpefbkgnpaa.Const => (x.kind, x.num, x.text)) (fun t => ⟨t.1, t.2.1, t.2.2⟩) (fun _ => rfl) opt156
def G66 (xs : List Go.Proofs.Ytdgjbpefbkgnpaa.Const) : Prop := xs.length ≤ maxLen ∧ ∀ x ∈ xs, G156 x
theorem op66 {H : Type} {enc : TypeId × Value → H} {w : World} {base : Nat} {spare : Nat → Bool} {held : Bool} : Opens enc Try.prog w base spare held 66 (Kd.slice 156 Go.Proofs.Ytdgjbpefbkgnpaa.kConst) G66 := opens_slice Try.underlying66 (by kernel_rfl) op156
def Gt68 (x : (List Go.Proofs.Ytdgjbpefbkgnpaa.Func) × (List Go.Proofs.Ytdgjbpefbkgnpaa.Const)) : Prop := G65 x.1 ∧ G66 x.2
abbrev G68 := Gt68
theorem op68 {H : Type} {enc : TypeId × Value → H} {w : World} {base : Nat} {spare : Nat → Bool} {held : Bool} : Opens enc Try.prog w base spare held 68 (Kd.pair (Kd.slice 154 Go.Proofs.Ytdgjbpefbkgnpaa.kFuncL) (Kd.slice 156 Go.Proofs.Ytdgjbpefbkgnpaa.kConst)) G68 := opens_struct Try.underlying68 (by kernel_rfl) (fields_cons rfl (by kernel_rfl) op65 (fields_one rfl (by kernel_rfl) op66))
set_option maxRecDepth 100000 in
theorem lifted (os : Os) (started : os.Started) (H : Type) (enc : TypeId × Value → H) :
    ReturnsInHanded {} Try.checked os 12 .any (Rows.fnExactSameImageSpec.pre6 enc Try.prog Try.f12 Rows.fnExactSameImageRow.domain false) (Rows.fnExactSameImageSpec.post enc Try.prog Try.f12 false true false false) := by
  refine returnsInHanded_of_change_sized (C := Try.checked) own started (by kernel_rfl) Try.func12
    (ChangeSpec.witness6 (enc := enc) (C := Try.checked) false ⟨#[], #[.agg #[.slice none 0 0, .slice none 0 0], .agg #[.slice none 0 0, .slice none 0 0]], []⟩ 8 (by kernel_rfl) (by kernel_rfl) (by kernel_rfl) (by kernel_rfl)) ?_
  intro W base args ds gs before hval0 hW hcnd hsz0 _
  have hval : ∀ (j : Nat) t v, Try.f12.params[j]? = some t → args[j]? = some v → Value.okWide Try.prog W .any base t v := hval0
  have hW' := hW
  obtain ⟨p, q, hA0, hV, rfl, hfz, hnd⟩ := hW
  have hA : DataW.TrodAll enc Try.prog W 0 (fun _ => true) true Try.f12.params.toList args.toList ds p := hA0
  rw [Try.params12] at hA hval
  obtain ⟨v0, vs0, d0, ds0, p0, q0, hargs0, rfl, rfl, h0, r0⟩ := trodAll_cons hA
  obtain ⟨v1, vs1, d1, ds1, p1, q1, hargs1, rfl, rfl, h1, r1⟩ := trodAll_cons r0
  obtain ⟨rfl, rfl, rfl⟩ := trodAll_nil r1
  obtain rfl : args = #[v0, v1] := by cases args; simp_all
  obtain ⟨rfl, rfl⟩ := trodVars_none hV
  have k0 := h0
  have lt0 : ∀ x ∈ p0, x.block < W.heap.size := by obtain ⟨m, hm⟩ := k0; exact DataW.trod_lt m _ _ _ hm
  obtain ⟨cs0, rfl, hcz0⟩ := okWide_struct Try.underlying68 (hval 0 68 v0 rfl rfl)
  obtain ⟨x0, hk0, hg0⟩ := opens_arg op68 h0
  obtain ⟨x0_0, x0_1⟩ := x0
  obtain ⟨_, _, e0, ⟨A0_0, c0_0, rfl, hl0_0, hr0_0⟩, ⟨A0_1, c0_1, rfl, hl0_1, hr0_1⟩⟩ := hk0
  obtain rfl : cs0 = #[.slice A0_0 x0_0.length c0_0, .slice A0_1 x0_1.length c0_1] := by obtain ⟨l⟩ := cs0; exact congrArg Array.mk e0
  have k1 := h1
  have lt1 : ∀ x ∈ p1, x.block < W.heap.size := by obtain ⟨m, hm⟩ := k1; exact DataW.trod_lt m _ _ _ hm
  obtain ⟨cs1, rfl, hcz1⟩ := okWide_struct Try.underlying68 (hval 1 68 v1 rfl rfl)
  obtain ⟨x1, hk1, hg1⟩ := opens_arg op68 h1
  obtain ⟨x1_0, x1_1⟩ := x1
  obtain ⟨_, _, e1, ⟨A1_0, c1_0, rfl, hl1_0, hr1_0⟩, ⟨A1_1, c1_1, rfl, hl1_1, hr1_1⟩⟩ := hk1
  obtain rfl : cs1 = #[.slice A1_0 x1_0.length c1_0, .slice A1_1 x1_1.length c1_1] := by obtain ⟨l⟩ := cs1; exact congrArg Array.mk e1
  clear hA0 hval0 hsz0
  refine (Go.Proofs.Ytdgjbpefbkgnpaa.LawFnExactSameImage.law A0_0 c0_0 x0_0 A0_1 c0_1 x0_1 A1_0 c1_0 x1_0 A1_1 c1_1 x1_1 W hr0_0 hl0_0 hr0_1 hl0_1 hr1_0 hl1_0 hr1_1 hl1_1 hg0 hg1).mono fun e W' ⟨he, bel⟩ => ?_
  subst he
  exact ⟨_, rfl, _, _, _, [], _, [], hW', trodAll_mk1 (shut_bool Try.underlying4 _), (trodAll_cons_mk (Below.trod laidOut (by kernel_rfl) (of_decide_eq_true (by kernel_rfl)) k0 bel lt0) (trodAll_cons_mk (Below.trod laidOut (by kernel_rfl) (of_decide_eq_true (by kernel_rfl)) k1 bel lt1) trodAll_mk0)), rfl, bel.frame _, fun h => by cases h⟩
theorem over : Rows.fnExactSameImageRow.holds Try.pinned (OpenSpec.ofChange Rows.fnExactSameImageSpec) :=
  OpenClaim.holds_of_wide 12 Try.f12 rfl rfl rfl rfl rfl rfl rfl ⟨rfl, rfl, rfl, rfl, rfl⟩ rfl rfl rfl rfl rfl (by kernel_rfl) Try.func12 (by kernel_rfl)
    (of_decide_eq_true (by kernel_rfl)) (by unfold Func.isWrapper; first | (rw [if_pos (by decide +kernel)]; kernel_rfl) | (rw [if_neg (by decide +kernel)]; exact ⟨rfl, rfl⟩))
    (fun os started H enc _ => lifted os started H enc)
theorem proved : Rows.FnExactSameImageSaid := over
#print axioms proved
end Go.Proofs.Ytdgjbpefbkgnpaa.fnExactSameImage
namespace Go.Proofs.Ytdgjbpefbkgnpaa
/-- The row, under a short name, for the claim. -/
theorem fnExactSameImage_holds : Rows.FnExactSameImageSaid := fnExactSameImage.proved
end Go.Proofs.Ytdgjbpefbkgnpaa
