/- The row of 'FnExactShowIns': for every input the law returns true, and each argument reads behind the call as it read before. No condition. -/
import Derived.Test.YtkgdjhhokbbheaaDoorRows
import Derived.Test.YtkgdjhhokbbheaaDoorLawFnExactShowIns
import Derived.Test.YtkgdjhhokbbheaaDoorOpen
import Derived.WalkKit
import Derived.ProofKit
import Derived.OpenShut
import Derived.ShutString
import Derived.ChangeOld
import Derived.Below
import Derived.SizedLaws
import Derived.LaidMore
import Derived.Lay
import Derived.Stop.Joined
import Derived.Lib.LaidTab
import Derived.Lib.Space
namespace Go.Proofs.YtkgdjhhokbbheaaDoor.fnExactShowIns
open Go.ChangeShapes Go.WideShapes Go.ChangeAt Go.RowKit Go.Proofs.YtkgdjhhokbbheaaDoorW.PrintWords Go.Proofs.YtkgdjhhokbbheaaDoor.Open
open Go.ChangeMaps (open_string shut_string)
set_option linter.unusedVariables false
set_option linter.unusedSimpArgs false
theorem own : ownKnob Tryd.prog.godebug = none := by kernel_rfl
theorem laidOut : laidOutB Tryd.prog = true := by kernel_rfl
def G3 (n : Int) : Prop := (Lit.int .i64 n).wf = true
theorem op3 {H : Type} {enc : TypeId × Value → H} {w : World} {base : Nat} {spare : Nat → Bool} {held : Bool} : Opens enc Tryd.prog w base spare held 3 (Kd.int .i64) G3 := opens_int Tryd.underlying3
def Gt23 (x : Int × Int × Int) : Prop := G3 x.1 ∧ G3 x.2.1 ∧ G3 x.2.2
abbrev G23 := Gt23
theorem op23 {H : Type} {enc : TypeId × Value → H} {w : World} {base : Nat} {spare : Nat → Bool} {held : Bool} : Opens enc Tryd.prog w base spare held 23 (Kd.pair (Kd.int .i64) (Kd.pair (Kd.int .i64) (Kd.int .i64))) G23 := opens_struct Tryd.underlying23 (by kernel_rfl) (fields_cons rfl (by kernel_rfl) op3 (fields_cons rfl (by kernel_rfl) op3 (fields_one rfl (by kernel_rfl) op3)))
abbrev laidL : List (String × DataW Unit) := [("unicode.White_Space", Rows.laid_unicode_White_Space), ("strings.asciiSpace", Rows.laid_strings_asciiSpace)]
theorem door_met (os : Os) (args : Array Value) : laidMetH Tryd.prog laidL ((World.doorLaid Tryd.prog 400 os).forCall (fun _ _ => 0) ⟨#[], args, []⟩).memory :=
  laidMetH_of_parts3 (fuel := 8) (laidMet_of_run' 8 (by kernel_rfl) (by kernel_rfl)) (by kernel_rfl) (by kernel_rfl)
theorem tab_eq : (Rows.laid_strings_asciiSpace : DataW Unit) = Lib.tabData .u8 Lib.asciiSpaceTab := by kernel_rfl
theorem tab_of {W : World} (h : laidMetH Tryd.prog laidL W) : Lib.TabIs Tryd.prog W "strings.asciiSpace" .u8 Lib.asciiSpaceTab := by
  rw [MakeChecks.laidMetH_plain _ _ _ (by kernel_rfl)] at h
  obtain ⟨ps, ⟨g0, t0, cs0, f0, p0, q0, hg0, ht0, hv0, hd0, ⟨g1, t1, cs1, f1, p1, q1, hg1, ht1, hv1, hd1, _, _⟩, _⟩, _, _⟩ := h
  obtain rfl := Option.some.inj ((show Tryd.prog.globalNamed "strings.asciiSpace" = some 0 by kernel_rfl).symm.trans hg1)
  obtain rfl := Option.some.inj ((show (Tryd.prog.globals[0]?).map (·.type) = some 60 by kernel_rfl).symm.trans ht1)
  rw [tab_eq] at hd1
  unfold Lib.TabIs
  rw [hv1, ← Lib.cells_of_tab Tryd.underlying60 Tryd.underlying5 (by kernel_rfl) (by kernel_rfl) hd1]
set_option maxRecDepth 100000 in
theorem lifted (os : Os) (started : os.Started) (H : Type) (enc : TypeId × Value → H) :
    ReturnsInHanded {} Tryd.checked os 3 .any (fun w args => (Rows.fnExactShowInsSpec.pre enc Tryd.prog Tryd.f3 Rows.fnExactShowInsRow.domain false w args ∧ laidMetH Tryd.prog laidL w) ∧ sizedMet enc Tryd.prog Tryd.f3 (OpenSpec.ofChange Rows.fnExactShowInsSpec) false w args) (Rows.fnExactShowInsSpec.post enc Tryd.prog Tryd.f3 false true false false) := by
  refine returnsInHanded_of_change_and (C := Tryd.checked) (X := fun w _ => laidMetH Tryd.prog laidL w) (fun _ _ _ hh h => h.of_heap hh) own started (by kernel_rfl) Tryd.func3
    (ChangeSpec.witness_shaped (enc := enc) (C := Tryd.checked) (os := os) (X := fun w _ => laidMetH Tryd.prog laidL w) false (World.doorLaid Tryd.prog 400 os) #[.agg #[.int .i64 0, .int .i64 0, .int .i64 0]] 8 rfl (World.shaped_of_RefB (by kernel_rfl) (by kernel_rfl)) (by kernel_rfl) (by kernel_rfl) (by kernel_rfl) (door_met os _)) ?_
  intro W base args ds gs before hval0 hW hcnd hsz0 hL _
  have hval : ∀ (j : Nat) t v, Tryd.f3.params[j]? = some t → args[j]? = some v → Value.okWide Tryd.prog W .any base t v := hval0
  have hW' := hW
  obtain ⟨p, q, hA0, hV, rfl, hfz, hnd⟩ := hW
  have hA : DataW.TrodAll enc Tryd.prog W 0 (fun _ => true) true Tryd.f3.params.toList args.toList ds p := hA0
  rw [Tryd.params3] at hA hval
  obtain ⟨v0, vs0, d0, ds0, p0, q0, hargs0, rfl, rfl, h0, r0⟩ := trodAll_cons hA
  obtain ⟨rfl, rfl, rfl⟩ := trodAll_nil r0
  obtain rfl : args = #[v0] := by cases args; simp_all
  obtain ⟨rfl, rfl⟩ := trodVars_none hV
  have k0 := h0
  have lt0 : ∀ x ∈ p0, x.block < W.heap.size := by obtain ⟨m, hm⟩ := k0; exact DataW.trod_lt m _ _ _ hm
  obtain ⟨cs0, rfl, hcz0⟩ := okWide_struct Tryd.underlying23 (hval 0 23 v0 rfl rfl)
  obtain ⟨x0, hk0, hg0⟩ := opens_arg op23 h0
  obtain ⟨x0_0, x0_1, x0_2⟩ := x0
  obtain ⟨_, _, e0, rfl, ⟨_, _, rfl, rfl, rfl⟩⟩ := hk0
  obtain rfl : cs0 = #[.int .i64 x0_0, .int .i64 x0_1, .int .i64 x0_2] := by obtain ⟨l⟩ := cs0; exact congrArg Array.mk e0
  clear hA0 hval0 hsz0
  refine (LawFnExactShowIns.law x0_0 x0_1 x0_2 W  hg0 (tab_of hL)).mono fun e W' ⟨he, bel⟩ => ?_
  subst he
  exact ⟨_, rfl, _, _, _, [], _, [], hW', trodAll_mk1 (shut_bool Tryd.underlying4 _), (trodAll_cons_mk (Below.trod laidOut (by kernel_rfl) (of_decide_eq_true (by kernel_rfl)) k0 bel lt0) trodAll_mk0), rfl, bel.frame _, fun h => by cases h⟩
theorem and_true_ {a b : Bool} (ha : a = true) (hb : b = true) : (a && b) = true := by rw [ha, hb]; rfl
theorem closed0 : (Rows.fnExactShowInsRow.wf (OpenSpec.ofChange Rows.fnExactShowInsSpec)) = true := by kernel_rfl
theorem closed1 : (laidOutB Tryd.pinned.checked.prog) = true := by kernel_rfl
theorem closed2 : (mapsRowed Tryd.pinned.checked.prog) = true := by kernel_rfl
theorem closed3 : (Tryd.f3.params.all (Tryd.pinned.checked.prog.readableRec ·)) = true := by kernel_rfl
theorem closed4 : (namedTie Tryd.pinned.checked.prog Rows.fnExactShowInsRow.named Rows.fnExactShowInsSpec.vars) = true := by kernel_rfl
theorem closed5 : ((Rows.fnExactShowInsRow.stops == [])) = true := by kernel_rfl
theorem closed6 : ((Tryd.pinned.checked.prog.stops == [])) = true := by kernel_rfl
theorem closed7 : ((Rows.fnExactShowInsRow.knobs == [])) = true := by kernel_rfl
theorem closed8 : ((Tryd.pinned.checked.prog.stopKnobs == [])) = true := by kernel_rfl
theorem closed9 : ((Rows.fnExactShowInsRow.inPlace == Tryd.pinned.checked.prog.inPlace 3)) = true := by kernel_rfl
theorem closed10 : ((Rows.fnExactShowInsRow.unfollowed == Tryd.pinned.checked.prog.unfollowed 3)) = true := by kernel_rfl
theorem closed11 : ((Rows.fnExactShowInsRow.recurses == Tryd.pinned.checked.prog.recurses 3)) = true := by kernel_rfl
theorem closed12 : ((Rows.fnExactShowInsRow.named == Tryd.pinned.checked.prog.varsNamed 3)) = true := by kernel_rfl
theorem closed13 : ((Rows.fnExactShowInsRow.maps == ((Tryd.f3.params.toList ++ Rows.fnExactShowInsSpec.plain.varTypes Tryd.pinned.checked.prog)).any (Tryd.pinned.checked.prog.mapsRec ·))) = true := by kernel_rfl
theorem closed14 : ((Rows.fnExactShowInsRow.ifaces == ((Tryd.f3.params.toList ++ Rows.fnExactShowInsSpec.plain.varTypes Tryd.pinned.checked.prog)).any (Tryd.pinned.checked.prog.ifacesRec ·))) = true := by kernel_rfl
theorem closed15 : ((Rows.fnExactShowInsRow.mapsOut == Tryd.pinned.checked.prog.mapsAmong Tryd.f3.resultTypes.toList)) = true := by kernel_rfl
theorem closed16 : ((Rows.fnExactShowInsRow.loops == ((Tryd.f3.params.toList ++ Rows.fnExactShowInsSpec.plain.varTypes Tryd.pinned.checked.prog)).any (Tryd.pinned.checked.prog.loopsFrom ·))) = true := by kernel_rfl
theorem closed17 : ((Rows.fnExactShowInsRow.wideKeys == (Tryd.f3.params.toList ++ Rows.fnExactShowInsSpec.plain.varTypes Tryd.pinned.checked.prog ++ Tryd.f3.resultTypes.toList).any (Tryd.pinned.checked.prog.wideKeysFrom ·))) = true := by kernel_rfl
theorem closed18 : (Rows.fnExactShowInsSpec.vars.all (Tryd.pinned.checked.prog.varReadable ·)) = true := by kernel_rfl
theorem closed19 : (Tryd.f3.resultTypes.all (fun t => Tryd.pinned.checked.prog.readableRec t && decide (t < Tryd.pinned.checked.prog.types.size))) = true := by kernel_rfl
theorem closed20 : ((Rows.fnExactShowInsRow.ifacesOut == Tryd.f3.resultTypes.toList.any (Tryd.pinned.checked.prog.ifacesRec ·))) = true := by kernel_rfl
theorem closed21 : ((Rows.fnExactShowInsRow.loopsOut == Tryd.f3.resultTypes.toList.any (Tryd.pinned.checked.prog.loopsFrom ·))) = true := by kernel_rfl
theorem closed22 : ((Rows.fnExactShowInsRow.plainKeys == Tryd.pinned.checked.prog.plainKeys)) = true := by kernel_rfl
theorem closed23 : (Rows.fnExactShowInsRow.shortTexts.isNone) = true := by kernel_rfl
theorem closed24 : (Tryd.pinned.checked.prog.stopsHeard) = true := by kernel_rfl
theorem closed25 : (Tryd.pinned.checked.prog.mayEnter) = true := by kernel_rfl
theorem closed26 : ((Rows.fnExactShowInsRow.lifted == Tryd.pinned.checked.prog.liftsFinal)) = true := by kernel_rfl
theorem closed27 : ((Tryd.pinned.checked.prog.make == some Rows.fnExactShowInsRow.make)) = true := by kernel_rfl
theorem closed28 : ((Rows.fnExactShowInsRow.kinds == (if Rows.fnExactShowInsRow.domain.isEmpty then [] else Tryd.f3.params.toList.map fun t => match Tryd.pinned.checked.prog.underlying t with | some (.int k) => some k | _ => none))) = true := by kernel_rfl
theorem closed29 : ((Rows.fnExactShowInsRow.pinned == Rows.fnExactShowInsRow.pinnedBy)) = true := by kernel_rfl
theorem closed30 : ((Rows.fnExactShowInsRow.veiled == (Tryd.f3.params.toList ++ Rows.fnExactShowInsSpec.plain.varTypes Tryd.pinned.checked.prog ++ Tryd.f3.resultTypes.toList).any (Tryd.pinned.checked.prog.veiledRec ·))) = true := by kernel_rfl
theorem closed31 : (Rows.fnExactShowInsRow.veiledFits Tryd.pinned.checked.prog Tryd.f3.params.toList (Tryd.f3.params.toList ++ Rows.fnExactShowInsSpec.plain.varTypes Tryd.pinned.checked.prog ++ Tryd.f3.resultTypes.toList)) = true := by kernel_rfl
set_option maxRecDepth 100000 in
theorem closed : joinedFacts Tryd.pinned.checked.prog 3 Tryd.f3 Rows.fnExactShowInsSpec Rows.fnExactShowInsRow = true := by
  show (Rows.fnExactShowInsRow.wf (OpenSpec.ofChange Rows.fnExactShowInsSpec) && laidOutB Tryd.pinned.checked.prog && mapsRowed Tryd.pinned.checked.prog && Tryd.f3.params.all (Tryd.pinned.checked.prog.readableRec ·) && namedTie Tryd.pinned.checked.prog Rows.fnExactShowInsRow.named Rows.fnExactShowInsSpec.vars && (Rows.fnExactShowInsRow.stops == []) && (Tryd.pinned.checked.prog.stops == []) && (Rows.fnExactShowInsRow.knobs == []) && (Tryd.pinned.checked.prog.stopKnobs == []) && (Rows.fnExactShowInsRow.inPlace == Tryd.pinned.checked.prog.inPlace 3) && (Rows.fnExactShowInsRow.unfollowed == Tryd.pinned.checked.prog.unfollowed 3) && (Rows.fnExactShowInsRow.recurses == Tryd.pinned.checked.prog.recurses 3) && (Rows.fnExactShowInsRow.named == Tryd.pinned.checked.prog.varsNamed 3) && (Rows.fnExactShowInsRow.maps == ((Tryd.f3.params.toList ++ Rows.fnExactShowInsSpec.plain.varTypes Tryd.pinned.checked.prog)).any (Tryd.pinned.checked.prog.mapsRec ·)) && (Rows.fnExactShowInsRow.ifaces == ((Tryd.f3.params.toList ++ Rows.fnExactShowInsSpec.plain.varTypes Tryd.pinned.checked.prog)).any (Tryd.pinned.checked.prog.ifacesRec ·)) && (Rows.fnExactShowInsRow.mapsOut == Tryd.pinned.checked.prog.mapsAmong Tryd.f3.resultTypes.toList) && (Rows.fnExactShowInsRow.loops == ((Tryd.f3.params.toList ++ Rows.fnExactShowInsSpec.plain.varTypes Tryd.pinned.checked.prog)).any (Tryd.pinned.checked.prog.loopsFrom ·)) && (Rows.fnExactShowInsRow.wideKeys == (Tryd.f3.params.toList ++ Rows.fnExactShowInsSpec.plain.varTypes Tryd.pinned.checked.prog ++ Tryd.f3.resultTypes.toList).any (Tryd.pinned.checked.prog.wideKeysFrom ·)) && Rows.fnExactShowInsSpec.vars.all (Tryd.pinned.checked.prog.varReadable ·) && Tryd.f3.resultTypes.all (fun t => Tryd.pinned.checked.prog.readableRec t && decide (t < Tryd.pinned.checked.prog.types.size)) && (Rows.fnExactShowInsRow.ifacesOut == Tryd.f3.resultTypes.toList.any (Tryd.pinned.checked.prog.ifacesRec ·)) && (Rows.fnExactShowInsRow.loopsOut == Tryd.f3.resultTypes.toList.any (Tryd.pinned.checked.prog.loopsFrom ·)) && (Rows.fnExactShowInsRow.plainKeys == Tryd.pinned.checked.prog.plainKeys) && Rows.fnExactShowInsRow.shortTexts.isNone && Tryd.pinned.checked.prog.stopsHeard && Tryd.pinned.checked.prog.mayEnter && (Rows.fnExactShowInsRow.lifted == Tryd.pinned.checked.prog.liftsFinal) && (Tryd.pinned.checked.prog.make == some Rows.fnExactShowInsRow.make) && (Rows.fnExactShowInsRow.kinds == (if Rows.fnExactShowInsRow.domain.isEmpty then [] else Tryd.f3.params.toList.map fun t => match Tryd.pinned.checked.prog.underlying t with | some (.int k) => some k | _ => none)) && (Rows.fnExactShowInsRow.pinned == Rows.fnExactShowInsRow.pinnedBy) && (Rows.fnExactShowInsRow.veiled == (Tryd.f3.params.toList ++ Rows.fnExactShowInsSpec.plain.varTypes Tryd.pinned.checked.prog ++ Tryd.f3.resultTypes.toList).any (Tryd.pinned.checked.prog.veiledRec ·)) && Rows.fnExactShowInsRow.veiledFits Tryd.pinned.checked.prog Tryd.f3.params.toList (Tryd.f3.params.toList ++ Rows.fnExactShowInsSpec.plain.varTypes Tryd.pinned.checked.prog ++ Tryd.f3.resultTypes.toList)) = true
  exact (and_true_ (and_true_ (and_true_ (and_true_ (and_true_ (and_true_ (and_true_ (and_true_ (and_true_ (and_true_ (and_true_ (and_true_ (and_true_ (and_true_ (and_true_ (and_true_ (and_true_ (and_true_ (and_true_ (and_true_ (and_true_ (and_true_ (and_true_ (and_true_ (and_true_ (and_true_ (and_true_ (and_true_ (and_true_ (and_true_ (and_true_ closed0 closed1) closed2) closed3) closed4) closed5) closed6) closed7) closed8) closed9) closed10) closed11) closed12) closed13) closed14) closed15) closed16) closed17) closed18) closed19) closed20) closed21) closed22) closed23) closed24) closed25) closed26) closed27) closed28) closed29) closed30) closed31)
theorem named : Tryd.pinned.checked.prog.funcNamed Rows.fnExactShowInsRow.func = some 3 := by kernel_rfl
theorem over : Rows.fnExactShowInsRow.holds Tryd.pinned (OpenSpec.ofChange Rows.fnExactShowInsSpec) :=
  OpenClaim.holds_of_wide 3 Tryd.f3 rfl rfl rfl rfl rfl rfl rfl ⟨rfl, rfl, rfl, rfl, rfl⟩ rfl rfl rfl rfl rfl named Tryd.func3 closed
    (of_decide_eq_true (by kernel_rfl)) (by unfold Func.isWrapper; first | (rw [if_pos (by decide +kernel)]; kernel_rfl) | (rw [if_neg (by decide +kernel)]; exact ⟨rfl, rfl⟩))
    (fun os started H enc _ => lifted os started H enc)
theorem proved : Rows.FnExactShowInsSaid := over
#print axioms proved
end Go.Proofs.YtkgdjhhokbbheaaDoor.fnExactShowIns
namespace Go.Proofs.YtkgdjhhokbbheaaDoor
/-- The row, under a short name, for the claim. -/
theorem fnExactShowIns_holds : Rows.FnExactShowInsSaid := fnExactShowIns.proved
end Go.Proofs.YtkgdjhhokbbheaaDoor
