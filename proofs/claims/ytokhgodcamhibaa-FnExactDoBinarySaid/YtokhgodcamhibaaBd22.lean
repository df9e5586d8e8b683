/- The row of 'FnExactDoBinary': for every input the law returns true, and each argument reads behind the call as it read before. No condition. -/
import Derived.Test.YtokhgodcamhibaaRows
import Derived.WalkKit
import Derived.ProofKit
import Derived.OpenShut
import Derived.ShutString
import Derived.ChangeOld
import Derived.Below
import Derived.SizedLaws
import Derived.Test.YtokhgodcamhibaaBd21
section
namespace Go.Proofs.Ytokhgodcamhibaa.fnExactDoBinary
open Go.ChangeShapes Go.WideShapes Go.ChangeAt Go.RowKit Go.Proofs.YtokhgodcamhibaaW.PrintWords Go.Proofs.Ytokhgodcamhibaa.Open
open Go.ChangeMaps (open_string shut_string)
set_option linter.unusedVariables false
set_option linter.unusedSimpArgs false
theorem own : ownKnob Try.prog.godebug = none := by kernel_rfl
theorem laidOut : laidOutB Try.prog = true := by kernel_rfl
def G3 (n : Int) : Prop := (Lit.int .i64 n).wf = true
theorem op3 {H : Type} {enc : TypeId × Value → H} {w : World} {base : Nat} {spare : Nat → Bool} {held : Bool} : Opens enc Try.prog w base spare held 3 (Kd.int .i64) G3 := opens_int Try.underlying3
def G26 (n : Int) : Prop := (Lit.int .u64 n).wf = true
theorem op26 {H : Type} {enc : TypeId × Value → H} {w : World} {base : Nat} {spare : Nat → Bool} {held : Bool} : Opens enc Try.prog w base spare held 26 (Kd.int .u64) G26 := opens_int Try.underlying26
def G9 (s : ByteArray) : Prop := s.size ≤ maxLen
theorem op9 {H : Type} {enc : TypeId × Value → H} {w : World} {base : Nat} {spare : Nat → Bool} {held : Bool} : Opens enc Try.prog w base spare held 9 Kd.string G9 := opens_string Try.underlying9
def Gt43 (x : Int × Int × ByteArray × Int) : Prop := G3 x.1 ∧ G26 x.2.1 ∧ G9 x.2.2.1 ∧ G3 x.2.2.2
abbrev G43 := Gt43
theorem op43 {H : Type} {enc : TypeId × Value → H} {w : World} {base : Nat} {spare : Nat → Bool} {held : Bool} : Opens enc Try.prog w base spare held 43 (Kd.pair (Kd.int .i64) (Kd.pair (Kd.int .u64) (Kd.pair Kd.string (Kd.int .i64)))) G43 := opens_struct Try.underlying43 (by kernel_rfl) (fields_cons rfl (by kernel_rfl) op3 (fields_cons rfl (by kernel_rfl) op26 (fields_cons rfl (by kernel_rfl) op9 (fields_one rfl (by kernel_rfl) op3))))
set_option maxRecDepth 100000 in
theorem lifted (os : Os) (started : os.Started) (H : Type) (enc : TypeId × Value → H) :
    ReturnsInHanded {} Try.checked os 6 .any (Rows.fnExactDoBinarySpec.pre6 enc Try.prog Try.f6 Rows.fnExactDoBinaryRow.domain false) (Rows.fnExactDoBinarySpec.post enc Try.prog Try.f6 false true false false) := by
  refine returnsInHanded_of_change_sized (C := Try.checked) own started (by kernel_rfl) Try.func6
    (ChangeSpec.witness6 (enc := enc) (C := Try.checked) false ⟨#[], #[.int .i64 0, .agg #[.int .i64 0, .int .u64 0, .string ⟨#[]⟩, .int .i64 0], .agg #[.int .i64 0, .int .u64 0, .string ⟨#[]⟩, .int .i64 0]], []⟩ 8 (by kernel_rfl) (by kernel_rfl) (by kernel_rfl) (by kernel_rfl)) ?_
  intro W base args ds gs before hval0 hW hcnd hsz0 _
  have hval : ∀ (j : Nat) t v, Try.f6.params[j]? = some t → args[j]? = some v → Value.okWide Try.prog W .any base t v := hval0
  have hW' := hW
  obtain ⟨p, q, hA0, hV, rfl, hfz, hnd⟩ := hW
  have hA : DataW.TrodAll enc Try.prog W 0 (fun _ => true) true Try.f6.params.toList args.toList ds p := hA0
  rw [Try.params6] at hA hval
  obtain ⟨v0, vs0, d0, ds0, p0, q0, hargs0, rfl, rfl, h0, r0⟩ := trodAll_cons hA
  obtain ⟨v1, vs1, d1, ds1, p1, q1, hargs1, rfl, rfl, h1, r1⟩ := trodAll_cons r0
  obtain ⟨v2, vs2, d2, ds2, p2, q2, hargs2, rfl, rfl, h2, r2⟩ := trodAll_cons r1
  obtain ⟨rfl, rfl, rfl⟩ := trodAll_nil r2
  obtain rfl : args = #[v0, v1, v2] := by cases args; simp_all
  obtain ⟨rfl, rfl⟩ := trodVars_none hV
  have k0 := h0
  have lt0 : ∀ x ∈ p0, x.block < W.heap.size := by obtain ⟨m, hm⟩ := k0; exact DataW.trod_lt m _ _ _ hm
  obtain ⟨a0, rfl⟩ := okWide_int Try.underlying3 (hval 0 3 v0 rfl rfl)
  obtain ⟨x0, hk0, hg0⟩ := opens_arg op3 h0
  obtain rfl : x0 = a0 := by have e : [_] = [_] := hk0; injection e with e _; injection e with e1 e2; exact e2.symm
  have k1 := h1
  have lt1 : ∀ x ∈ p1, x.block < W.heap.size := by obtain ⟨m, hm⟩ := k1; exact DataW.trod_lt m _ _ _ hm
  obtain ⟨cs1, rfl, hcz1⟩ := okWide_struct Try.underlying43 (hval 1 43 v1 rfl rfl)
  obtain ⟨x1, hk1, hg1⟩ := opens_arg op43 h1
  obtain ⟨x1_0, x1_1, x1_2, x1_3⟩ := x1
  obtain ⟨_, _, e1, rfl, ⟨_, _, rfl, rfl, ⟨_, _, rfl, rfl, rfl⟩⟩⟩ := hk1
  obtain rfl : cs1 = #[.int .i64 x1_0, .int .u64 x1_1, .string x1_2, .int .i64 x1_3] := by obtain ⟨l⟩ := cs1; exact congrArg Array.mk e1
  have k2 := h2
  have lt2 : ∀ x ∈ p2, x.block < W.heap.size := by obtain ⟨m, hm⟩ := k2; exact DataW.trod_lt m _ _ _ hm
  obtain ⟨cs2, rfl, hcz2⟩ := okWide_struct Try.underlying43 (hval 2 43 v2 rfl rfl)
  obtain ⟨x2, hk2, hg2⟩ := opens_arg op43 h2
  obtain ⟨x2_0, x2_1, x2_2, x2_3⟩ := x2
  obtain ⟨_, _, e2, rfl, ⟨_, _, rfl, rfl, ⟨_, _, rfl, rfl, rfl⟩⟩⟩ := hk2
  obtain rfl : cs2 = #[.int .i64 x2_0, .int .u64 x2_1, .string x2_2, .int .i64 x2_3] := by obtain ⟨l⟩ := cs2; exact congrArg Array.mk e2
  clear hA0 hval0 hsz0
  refine (Dob.rlaw x0 x1_0 x1_1 x1_2 x1_3 x2_0 x2_1 x2_2 x2_3 W  hg0 hg1 hg2).mono fun e W' ⟨he, bel⟩ => ?_
  subst he
  exact ⟨_, rfl, _, _, _, [], _, [], hW', trodAll_mk1 (shut_bool Try.underlying4 _), (trodAll_cons_mk (Below.trod laidOut (by kernel_rfl) (of_decide_eq_true (by kernel_rfl)) k0 bel lt0) (trodAll_cons_mk (Below.trod laidOut (by kernel_rfl) (of_decide_eq_true (by kernel_rfl)) k1 bel lt1) (trodAll_cons_mk (Below.trod laidOut (by kernel_rfl) (of_decide_eq_true (by kernel_rfl)) k2 bel lt2) trodAll_mk0))), rfl, bel.frame _, fun h => by cases h⟩
theorem and_true_ {a b : Bool} (ha : a = true) (hb : b = true) : (a && b) = true := by rw [ha, hb]; rfl
theorem closed0 : (Rows.fnExactDoBinaryRow.wf (OpenSpec.ofChange Rows.fnExactDoBinarySpec)) = true := by kernel_rfl
theorem closed1 : (laidOutB Try.pinned.checked.prog) = true := by kernel_rfl
theorem closed2 : (mapsRowed Try.pinned.checked.prog) = true := by kernel_rfl
theorem closed3 : (Try.f6.params.all (Try.pinned.checked.prog.readableRec ·)) = true := by kernel_rfl
theorem closed4 : (namedTie Try.pinned.checked.prog Rows.fnExactDoBinaryRow.named Rows.fnExactDoBinarySpec.vars) = true := by kernel_rfl
theorem closed5 : ((Rows.fnExactDoBinaryRow.stops == [])) = true := by kernel_rfl
theorem closed6 : ((Try.pinned.checked.prog.stops == [])) = true := by kernel_rfl
theorem closed7 : ((Rows.fnExactDoBinaryRow.knobs == [])) = true := by kernel_rfl
theorem closed8 : ((Try.pinned.checked.prog.stopKnobs == [])) = true := by kernel_rfl
theorem closed9 : ((Rows.fnExactDoBinaryRow.inPlace == Try.pinned.checked.prog.inPlace 6)) = true := by kernel_rfl
theorem closed10 : ((Rows.fnExactDoBinaryRow.unfollowed == Try.pinned.checked.prog.unfollowed 6)) = true := by kernel_rfl
theorem closed11 : ((Rows.fnExactDoBinaryRow.recurses == Try.pinned.checked.prog.recurses 6)) = true := by kernel_rfl
theorem closed12 : ((Rows.fnExactDoBinaryRow.named == Try.pinned.checked.prog.varsNamed 6)) = true := by kernel_rfl
theorem closed13 : ((Rows.fnExactDoBinaryRow.maps == ((Try.f6.params.toList ++ Rows.fnExactDoBinarySpec.plain.varTypes Try.pinned.checked.prog)).any (Try.pinned.checked.prog.mapsRec ·))) = true := by kernel_rfl
theorem closed14 : ((Rows.fnExactDoBinaryRow.ifaces == ((Try.f6.params.toList ++ Rows.fnExactDoBinarySpec.plain.varTypes Try.pinned.checked.prog)).any (Try.pinned.checked.prog.ifacesRec ·))) = true := by kernel_rfl
theorem closed15 : ((Rows.fnExactDoBinaryRow.mapsOut == Try.pinned.checked.prog.mapsAmong Try.f6.resultTypes.toList)) = true := by kernel_rfl
theorem closed16 : ((Rows.fnExactDoBinaryRow.loops == ((Try.f6.params.toList ++ Rows.fnExactDoBinarySpec.plain.varTypes Try.pinned.checked.prog)).any (Try.pinned.checked.prog.loopsFrom ·))) = true := by kernel_rfl
theorem closed17 : ((Rows.fnExactDoBinaryRow.wideKeys == (Try.f6.params.toList ++ Rows.fnExactDoBinarySpec.plain.varTypes Try.pinned.checked.prog ++ Try.f6.resultTypes.toList).any (Try.pinned.checked.prog.wideKeysFrom ·))) = true := by kernel_rfl
theorem closed18 : (Rows.fnExactDoBinarySpec.vars.all (Try.pinned.checked.prog.varReadable ·)) = true := by kernel_rfl
theorem closed19 : (Try.f6.resultTypes.all (fun t => Try.pinned.checked.prog.readableRec t && decide (t < Try.pinned.checked.prog.types.size))) = true := by kernel_rfl
theorem closed20 : ((Rows.fnExactDoBinaryRow.ifacesOut == Try.f6.resultTypes.toList.any (Try.pinned.checked.prog.ifacesRec ·))) = true := by kernel_rfl
theorem closed21 : ((Rows.fnExactDoBinaryRow.loopsOut == Try.f6.resultTypes.toList.any (Try.pinned.checked.prog.loopsFrom ·))) = true := by kernel_rfl
theorem closed22 : ((Rows.fnExactDoBinaryRow.plainKeys == Try.pinned.checked.prog.plainKeys)) = true := by kernel_rfl
theorem closed23 : (Rows.fnExactDoBinaryRow.shortTexts.isNone) = true := by kernel_rfl
theorem closed24 : (Try.pinned.checked.prog.stopsHeard) = true := by kernel_rfl
theorem closed25 : (Try.pinned.checked.prog.mayEnter) = true := by kernel_rfl
theorem closed26 : ((Rows.fnExactDoBinaryRow.lifted == Try.pinned.checked.prog.liftsFinal)) = true := by kernel_rfl
theorem closed27 : ((Try.pinned.checked.prog.make == some Rows.fnExactDoBinaryRow.make)) = true := by kernel_rfl
theorem closed28 : ((Rows.fnExactDoBinaryRow.kinds == (if Rows.fnExactDoBinaryRow.domain.isEmpty then [] else Try.f6.params.toList.map fun t => match Try.pinned.checked.prog.underlying t with | some (.int k) => some k | _ => none))) = true := by kernel_rfl
theorem closed29 : ((Rows.fnExactDoBinaryRow.pinned == Rows.fnExactDoBinaryRow.pinnedBy)) = true := by kernel_rfl
theorem closed30 : ((Rows.fnExactDoBinaryRow.veiled == (Try.f6.params.toList ++ Rows.fnExactDoBinarySpec.plain.varTypes Try.pinned.checked.prog ++ Try.f6.resultTypes.toList).any (Try.pinned.checked.prog.veiledRec ·))) = true := by kernel_rfl
theorem closed31 : (Rows.fnExactDoBinaryRow.veiledFits Try.pinned.checked.prog Try.f6.params.toList (Try.f6.params.toList ++ Rows.fnExactDoBinarySpec.plain.varTypes Try.pinned.checked.prog ++ Try.f6.resultTypes.toList)) = true := by kernel_rfl
set_option maxRecDepth 100000 in
theorem closed : joinedFacts Try.pinned.checked.prog 6 Try.f6 Rows.fnExactDoBinarySpec Rows.fnExactDoBinaryRow = true := by
  show (Rows.fnExactDoBinaryRow.wf (OpenSpec.ofChange Rows.fnExactDoBinarySpec) && laidOutB Try.pinned.checked.prog && mapsRowed Try.pinned.checked.prog && Try.f6.params.all (Try.pinned.checked.prog.readableRec ·) && namedTie Try.pinned.checked.prog Rows.fnExactDoBinaryRow.named Rows.fnExactDoBinarySpec.vars && (Rows.fnExactDoBinaryRow.stops == []) && (Try.pinned.checked.prog.stops == []) && (Rows.fnExactDoBinaryRow.knobs == []) && (Try.pinned.checked.prog.stopKnobs == []) && (Rows.fnExactDoBinaryRow.inPlace == Try.pinned.checked.prog.inPlace 6) && (Rows.fnExactDoBinaryRow.unfollowed == Try.pinned.checked.prog.unfollowed 6) && (Rows.fnExactDoBinaryRow.recurses == Try.pinned.checked.prog.recurses 6) && (Rows.fnExactDoBinaryRow.named == Try.pinned.checked.prog.varsNamed 6) && (Rows.fnExactDoBinaryRow.maps == ((Try.f6.params.toList ++ Rows.fnExactDoBinarySpec.plain.varTypes Try.pinned.checked.prog)).any (Try.pinned.checked.prog.mapsRec ·)) && (Rows.fnExactDoBinaryRow.ifaces == ((Try.f6.params.toList ++ Rows.fnExactDoBinarySpec.plain.varTypes Try.pinned.checked.prog)).any (Try.pinned.checked.prog.ifacesRec ·)) && (Rows.fnExactDoBinaryRow.mapsOut == Try.pinned.checked.prog.mapsAmong Try.f6.resultTypes.toList) && (Rows.fnExactDoBinaryRow.loops == ((Try.f6.params.toList ++ Rows.fnExactDoBinarySpec.plain.varTypes Try.pinned.checked.prog)).any (Try.pinned.checked.prog.loopsFrom ·)) && (Rows.fnExactDoBinaryRow.wideKeys == (Try.f6.params.toList ++ Rows.fnExactDoBinarySpec.plain.varTypes Try.pinned.checked.prog ++ Try.f6.resultTypes.toList).any (Try.pinned.checked.prog.wideKeysFrom ·)) && Rows.fnExactDoBinarySpec.vars.all (Try.pinned.checked.prog.varReadable ·) && Try.f6.resultTypes.all (fun t => Try.pinned.checked.prog.readableRec t && decide (t < Try.pinned.checked.prog.types.size)) && (Rows.fnExactDoBinaryRow.ifacesOut == Try.f6.resultTypes.toList.any (Try.pinned.checked.prog.ifacesRec ·)) && (Rows.fnExactDoBinaryRow.loopsOut == Try.f6.resultTypes.toList.any (Try.pinned.checked.prog.loopsFrom ·)) && (Rows.fnExactDoBinaryRow.plainKeys == Try.pinned.checked.prog.plainKeys) && Rows.fnExactDoBinaryRow.shortTexts.isNone && Try.pinned.checked.prog.stopsHeard && Try.pinned.checked.prog.mayEnter && (Rows.fnExactDoBinaryRow.lifted == Try.pinned.checked.prog.liftsFinal) && (Try.pinned.checked.prog.make == some Rows.fnExactDoBinaryRow.make) && (Rows.fnExactDoBinaryRow.kinds == (if Rows.fnExactDoBinaryRow.domain.isEmpty then [] else Try.f6.params.toList.map fun t => match Try.pinned.checked.prog.underlying t with | some (.int k) => some k | _ => none)) && (Rows.fnExactDoBinaryRow.pinned == Rows.fnExactDoBinaryRow.pinnedBy) && (Rows.fnExactDoBinaryRow.veiled == (Try.f6.params.toList ++ Rows.fnExactDoBinarySpec.plain.varTypes Try.pinned.checked.prog ++ Try.f6.resultTypes.toList).any (Try.pinned.checked.prog.veiledRec ·)) && Rows.fnExactDoBinaryRow.veiledFits Try.pinned.checked.prog Try.f6.params.toList (Try.f6.params.toList ++ Rows.fnExactDoBinarySpec.plain.varTypes Try.pinned.checked.prog ++ Try.f6.resultTypes.toList)) = true
  exact (and_true_ (and_true_ (and_true_ (and_true_ (and_true_ (and_true_ (and_true_ (and_true_ (and_true_ (and_true_ (and_true_ (and_true_ (and_true_ (and_true_ (and_true_ (and_true_ (and_true_ (and_true_ (and_true_ (and_true_ (and_true_ (and_true_ (and_true_ (and_true_ (and_true_ (and_true_ (and_true_ (and_true_ (and_true_ (and_true_ (and_true_ closed0 closed1) closed2) closed3) closed4) closed5) closed6) closed7) closed8) closed9) closed10) closed11) closed12) closed13) closed14) closed15) closed16) closed17) closed18) closed19) closed20) closed21) closed22) closed23) closed24) closed25) closed26) closed27) closed28) closed29) closed30) closed31)
theorem named : Try.pinned.checked.prog.funcNamed Rows.fnExactDoBinaryRow.func = some 6 := by kernel_rfl
theorem over : Rows.fnExactDoBinaryRow.holds Try.pinned (OpenSpec.ofChange Rows.fnExactDoBinarySpec) :=
  OpenClaim.holds_of_wide 6 Try.f6 rfl rfl rfl rfl rfl rfl rfl ⟨rfl, rfl, rfl, rfl, rfl⟩ rfl rfl rfl rfl rfl named Try.func6 closed
    (of_decide_eq_true (by kernel_rfl)) (by unfold Func.isWrapper; first | (rw [if_pos (by decide +kernel)]; kernel_rfl) | (rw [if_neg (by decide +kernel)]; exact ⟨rfl, rfl⟩))
    (fun os started H enc _ => lifted os started H enc)
theorem proved : Rows.FnExactDoBinarySaid := over
#print axioms proved
end Go.Proofs.Ytokhgodcamhibaa.fnExactDoBinary
namespace Go.Proofs.Ytokhgodcamhibaa
/-- The row, under a short name, for the claim. -/
theorem fnExactDoBinary_holds : Rows.FnExactDoBinarySaid := fnExactDoBinary.proved
end Go.Proofs.Ytokhgodcamhibaa
end
