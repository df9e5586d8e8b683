/- The row of 'FnExactReadImage': for every input the law returns true, and each argument reads behind the call as it read before. No condition. -/
import Derived.Test.YtcbaokflimdjnaaRows
import Derived.WalkKit
import Derived.ProofKit
import Derived.OpenShut
import Derived.ShutString
import Derived.ChangeOld
import Derived.Below
import Derived.SizedLaws
import Derived.Test.YtcbaokflimdjnaaBr21
set_option linter.unusedVariables false
set_option linter.unusedSimpArgs false
section
namespace Go.Proofs.Ytcbaokflimdjnaa.fnExactReadImage
open Go.ChangeShapes Go.WideShapes Go.ChangeAt Go.RowKit Go.Proofs.YtcbaokflimdjnaaW.PrintWords Go.Proofs.Ytcbaokflimdjnaa.Open
open Go.ChangeMaps (open_string shut_string)
theorem own : ownKnob Try.prog.godebug = none := by kernel_rfl
theorem laidOut : laidOutB Try.prog = true := by kernel_rfl
def G9 (s : ByteArray) : Prop := s.size ≤ maxLen
theorem op9 {H : Type} {enc : TypeId × Value → H} {w : World} {base : Nat} {spare : Nat → Bool} {held : Bool} : Opens enc Try.prog w base spare held 9 Kd.string G9 := opens_string Try.underlying9
set_option maxRecDepth 100000 in
theorem lifted (os : Os) (started : os.Started) (H : Type) (enc : TypeId × Value → H) :
  ReturnsInHanded {} Try.checked os 11 .any (Rows.fnExactReadImageSpec.pre6 enc Try.prog Try.f11 Rows.fnExactReadImageRow.domain false) (Rows.fnExactReadImageSpec.post enc Try.prog Try.f11 false true false false) := by
 refine returnsInHanded_of_change_sized (C := Try.checked) own started (by kernel_rfl) Try.func11
  (ChangeSpec.witness6 (enc := enc) (C := Try.checked) false ⟨#[], #[.string ⟨#[]⟩], []⟩ 8 (by kernel_rfl) (by kernel_rfl) (by kernel_rfl) (by kernel_rfl)) ?_
 intro W base args ds gs before hval0 hW hcnd hsz0 _
 have hval : ∀ (j : Nat) t v, Try.f11.params[j]? = some t → args[j]? = some v → Value.okWide Try.prog W .any base t v := hval0
 have hW' := hW
 obtain ⟨p, q, hA0, hV, rfl, hfz, hnd⟩ := hW
 have hA : DataW.TrodAll enc Try.prog W 0 (fun _ => true) true Try.f11.params.toList args.toList ds p := hA0
 rw [Try.params11] at hA hval
 obtain ⟨v0, vs0, d0, ds0, p0, q0, hargs0, rfl, rfl, h0, r0⟩ := trodAll_cons hA
 obtain ⟨rfl, rfl, rfl⟩ := trodAll_nil r0
 obtain rfl : args = #[v0] := by cases args; simp_all
 obtain ⟨rfl, rfl⟩ := trodVars_none hV
 have k0 := h0
 have lt0 : ∀ x ∈ p0, x.block < W.heap.size := by obtain ⟨m, hm⟩ := k0; exact DataW.trod_lt m _ _ _ hm
 obtain ⟨a0, rfl⟩ := okWide_string Try.underlying9 (hval 0 9 v0 rfl rfl)
 obtain ⟨x0, hk0, hg0⟩ := opens_arg op9 h0
 obtain rfl : x0 = a0 := by have e : [_] = [_] := hk0; injection e with e _; injection e with e; exact e.symm
 clear hA0 hval0 hsz0
 refine (LawFnExactReadImage.law x0 W  hg0).mono fun e W' ⟨he, bel⟩ => ?_
 subst he
 exact ⟨_, rfl, _, _, _, [], _, [], hW', trodAll_mk1 (shut_bool Try.underlying4 _), (trodAll_cons_mk (Below.trod laidOut (by kernel_rfl) (of_decide_eq_true (by kernel_rfl)) k0 bel lt0) trodAll_mk0), rfl, bel.frame _, fun h => by cases h⟩
theorem and_true_ {a b : Bool} (ha : a = true) (hb : b = true) : (a && b) = true := by rw [ha, hb]; rfl
theorem closed0 : (Rows.fnExactReadImageRow.wf (OpenSpec.ofChange Rows.fnExactReadImageSpec)) = true := by kernel_rfl
theorem closed1 : (laidOutB Try.pinned.checked.prog) = true := by kernel_rfl
theorem closed2 : (mapsRowed Try.pinned.checked.prog) = true := by kernel_rfl
theorem closed3 : (Try.f11.params.all (Try.pinned.checked.prog.readableRec ·)) = true := by kernel_rfl
theorem closed4 : (namedTie Try.pinned.checked.prog Rows.fnExactReadImageRow.named Rows.fnExactReadImageSpec.vars) = true := by kernel_rfl
theorem closed5 : ((Rows.fnExactReadImageRow.stops == [])) = true := by kernel_rfl
theorem closed6 : ((Try.pinned.checked.prog.stops == [])) = true := by kernel_rfl
theorem closed7 : ((Rows.fnExactReadImageRow.knobs == [])) = true := by kernel_rfl
theorem closed8 : ((Try.pinned.checked.prog.stopKnobs == [])) = true := by kernel_rfl
theorem closed9 : ((Rows.fnExactReadImageRow.inPlace == Try.pinned.checked.prog.inPlace 11)) = true := by kernel_rfl
theorem closed10 : ((Rows.fnExactReadImageRow.unfollowed == Try.pinned.checked.prog.unfollowed 11)) = true := by kernel_rfl
theorem closed11 : ((Rows.fnExactReadImageRow.recurses == Try.pinned.checked.prog.recurses 11)) = true := by kernel_rfl
theorem closed12 : ((Rows.fnExactReadImageRow.named == Try.pinned.checked.prog.varsNamed 11)) = true := by kernel_rfl
theorem closed13 : ((Rows.fnExactReadImageRow.maps == ((Try.f11.params.toList ++ Rows.fnExactReadImageSpec.plain.varTypes Try.pinned.checked.prog)).any (Try.pinned.checked.prog.mapsRec ·))) = true := by kernel_rfl
theorem closed14 : ((Rows.fnExactReadImageRow.ifaces == ((Try.f11.params.toList ++ Rows.fnExactReadImageSpec.plain.varTypes Try.pinned.checked.prog)).any (Try.pinned.checked.prog.ifacesRec ·))) = true := by kernel_rfl
theorem closed15 : ((Rows.fnExactReadImageRow.mapsOut == Try.pinned.checked.prog.mapsAmong Try.f11.resultTypes.toList)) = true := by kernel_rfl
theorem closed16 : ((Rows.fnExactReadImageRow.loops == ((Try.f11.params.toList ++ Rows.fnExactReadImageSpec.plain.varTypes Try.pinned.checked.prog)).any (Try.pinned.checked.prog.loopsFrom ·))) = true := by kernel_rfl
theorem closed17 : ((Rows.fnExactReadImageRow.wideKeys == (Try.f11.params.toList ++ Rows.fnExactReadImageSpec.plain.varTypes Try.pinned.checked.prog ++ Try.f11.resultTypes.toList).any (Try.pinned.checked.prog.wideKeysFrom ·))) = true := by kernel_rfl
theorem closed18 : (Rows.fnExactReadImageSpec.vars.all (Try.pinned.checked.prog.varReadable ·)) = true := by kernel_rfl
theorem closed19 : (Try.f11.resultTypes.all (fun t => Try.pinned.checked.prog.readableRec t && decide (t < Try.pinned.checked.prog.types.size))) = true := by kernel_rfl
theorem closed20 : ((Rows.fnExactReadImageRow.ifacesOut == Try.f11.resultTypes.toList.any (Try.pinned.checked.prog.ifacesRec ·))) = true := by kernel_rfl
theorem closed21 : ((Rows.fnExactReadImageRow.loopsOut == Try.f11.resultTypes.toList.any (Try.pinned.checked.prog.loopsFrom ·))) = true := by kernel_rfl
theorem closed22 : ((Rows.fnExactReadImageRow.plainKeys == Try.pinned.checked.prog.plainKeys)) = true := by kernel_rfl
theorem closed23 : (Rows.fnExactReadImageRow.shortTexts.isNone) = true := by kernel_rfl
theorem closed24 : (Try.pinned.checked.prog.stopsHeard) = true := by kernel_rfl
theorem closed25 : (Try.pinned.checked.prog.mayEnter) = true := by kernel_rfl
theorem closed26 : ((Rows.fnExactReadImageRow.lifted == Try.pinned.checked.prog.liftsFinal)) = true := by kernel_rfl
theorem closed27 : ((Try.pinned.checked.prog.make == some Rows.fnExactReadImageRow.make)) = true := by kernel_rfl
theorem closed28 : ((Rows.fnExactReadImageRow.kinds == (if Rows.fnExactReadImageRow.domain.isEmpty then [] else Try.f11.params.toList.map fun t => match Try.pinned.checked.prog.underlying t with | some (.int k) => some k | _ => none))) = true := by kernel_rfl
theorem closed29 : ((Rows.fnExactReadImageRow.pinned == Rows.fnExactReadImageRow.pinnedBy)) = true := by kernel_rfl
theorem closed30 : ((Rows.fnExactReadImageRow.veiled == (Try.f11.params.toList ++ Rows.fnExactReadImageSpec.plain.varTypes Try.pinned.checked.prog ++ Try.f11.resultTypes.toList).any (Try.pinned.checked.prog.veiledRec ·))) = true := by kernel_rfl
theorem closed31 : (Rows.fnExactReadImageRow.veiledFits Try.pinned.checked.prog Try.f11.params.toList (Try.f11.params.toList ++ Rows.fnExactReadImageSpec.plain.varTypes Try.pinned.checked.prog ++ Try.f11.resultTypes.toList)) = true := by kernel_rfl
set_option maxRecDepth 100000 in
theorem closed : joinedFacts Try.pinned.checked.prog 11 Try.f11 Rows.fnExactReadImageSpec Rows.fnExactReadImageRow = true := by
 show (Rows.fnExactReadImageRow.wf (OpenSpec.ofChange Rows.fnExactReadImageSpec) && laidOutB Try.pinned.checked.prog && mapsRowed Try.pinned.checked.prog && Try.f11.params.all (Try.pinned.checked.prog.readableRec ·) && namedTie Try.pinned.checked.prog Rows.fnExactReadImageRow.named Rows.fnExactReadImageSpec.vars && (Rows.fnExactReadImageRow.stops == []) && (Try.pinned.checked.prog.stops == []) && (Rows.fnExactReadImageRow.knobs == []) && (Try.pinned.checked.prog.stopKnobs == []) && (Rows.fnExactReadImageRow.inPlace == Try.pinned.checked.prog.inPlace 11) && (Rows.fnExactReadImageRow.unfollowed == Try.pinned.checked.prog.unfollowed 11) && (Rows.fnExactReadImageRow.recurses == Try.pinned.checked.prog.recurses 11) && (Rows.fnExactReadImageRow.named == Try.pinned.checked.prog.varsNamed 11) && (Rows.fnExactReadImageRow.maps == ((Try.f11.params.toList ++ Rows.fnExactReadImageSpec.plain.varTypes Try.pinned.checked.prog)).any (Try.pinned.checked.prog.mapsRec ·)) && (Rows.fnExactReadImageRow.ifaces == ((Try.f11.params.toList ++ Rows.fnExactReadImageSpec.plain.varTypes Try.pinned.checked.prog)).any (Try.pinned.checked.prog.ifacesRec ·)) && (Rows.fnExactReadImageRow.mapsOut == Try.pinned.checked.prog.mapsAmong Try.f11.resultTypes.toList) && (Rows.fnExactReadImageRow.loops == ((Try.f11.params.toList ++ Rows.fnExactReadImageSpec.plain.varTypes Try.pinned.checked.prog)).any (Try.pinned.checked.prog.loopsFrom ·)) && (Rows.fnExactReadImageRow.wideKeys == (Try.f11.params.toList ++ Rows.fnExactReadImageSpec.plain.varTypes Try.pinned.checked.prog ++ Try.f11.resultTypes.toList).any (Try.pinned.checked.prog.wideKeysFrom ·)) && Rows.fnExactReadImageSpec.vars.all (Try.pinned.checked.prog.varReadable ·) && Try.f11.resultTypes.all (fun t => Try.pinned.checked.prog.readableRec t && decide (t < Try.pinned.checked.prog.types.size)) && (Rows.fnExactReadImageRow.ifacesOut == Try.f11.resultTypes.toList.any (Try.pinned.checked.prog.ifacesRec ·)) && (Rows.fnExactReadImageRow.loopsOut == Try.f11.resultTypes.toList.any (Try.pinned.checked.prog.loopsFrom ·)) && (Rows.fnExactReadImageRow.plainKeys == Try.pinned.checked.prog.plainKeys) && Rows.fnExactReadImageRow.shortTexts.isNone && Try.pinned.checked.prog.stopsHeard && Try.pinned.checked.prog.mayEnter && (Rows.fnExactReadImageRow.lifted == Try.pinned.checked.prog.liftsFinal) && (Try.pinned.checked.prog.make == some Rows.fnExactReadImageRow.make) && (Rows.fnExactReadImageRow.kinds == (if Rows.fnExactReadImageRow.domain.isEmpty then [] else Try.f11.params.toList.map fun t => match Try.pinned.checked.prog.underlying t with | some (.int k) => some k | _ => none)) && (Rows.fnExactReadImageRow.pinned == Rows.fnExactReadImageRow.pinnedBy) && (Rows.fnExactReadImageRow.veiled == (Try.f11.params.toList ++ Rows.fnExactReadImageSpec.plain.varTypes Try.pinned.checked.prog ++ Try.f11.resultTypes.toList).any (Try.pinned.checked.prog.veiledRec ·)) && Rows.fnExactReadImageRow.veiledFits Try.pinned.checked.prog Try.f11.params.toList (Try.f11.params.toList ++ Rows.fnExactReadImageSpec.plain.varTypes Try.pinned.checked.prog ++ Try.f11.resultTypes.toList)) = true
 exact (and_true_ (and_true_ (and_true_ (and_true_ (and_true_ (and_true_ (and_true_ (and_true_ (and_true_ (and_true_ (and_true_ (and_true_ (and_true_ (and_true_ (and_true_ (and_true_ (and_true_ (and_true_ (and_true_ (and_true_ (and_true_ (and_true_ (and_true_ (and_true_ (and_true_ (and_true_ (and_true_ (and_true_ (and_true_ (and_true_ (and_true_ closed0 closed1) closed2) closed3) closed4) closed5) closed6) closed7) closed8) closed9) closed10) closed11) closed12) closed13) closed14) closed15) closed16) closed17) closed18) closed19) closed20) closed21) closed22) closed23) closed24) closed25) closed26) closed27) closed28) closed29) closed30) closed31)
theorem named : Try.pinned.checked.prog.funcNamed Rows.fnExactReadImageRow.func = some 11 := by kernel_rfl
theorem over : Rows.fnExactReadImageRow.holds Try.pinned (OpenSpec.ofChange Rows.fnExactReadImageSpec) :=
 OpenClaim.holds_of_wide 11 Try.f11 rfl rfl rfl rfl rfl rfl rfl ⟨rfl, rfl, rfl, rfl, rfl⟩ rfl rfl rfl rfl rfl named Try.func11 closed
  (of_decide_eq_true (by kernel_rfl)) (by unfold Func.isWrapper; first | (rw [if_pos (by decide +kernel)]; kernel_rfl) | (rw [if_neg (by decide +kernel)]; exact ⟨rfl, rfl⟩))
  (fun os started H enc _ => lifted os started H enc)
theorem proved : Rows.FnExactReadImageSaid := over
#print axioms proved
end Go.Proofs.Ytcbaokflimdjnaa.fnExactReadImage
namespace Go.Proofs.Ytcbaokflimdjnaa
/-- The row, under a short name, for the claim. -/
theorem fnExactReadImage_holds : Rows.FnExactReadImageSaid := fnExactReadImage.proved
end Go.Proofs.Ytcbaokflimdjnaa
end
