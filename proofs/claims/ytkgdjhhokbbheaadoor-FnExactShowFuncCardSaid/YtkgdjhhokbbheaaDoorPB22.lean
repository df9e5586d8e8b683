/- Part 22 of the proof: general lemmas, contracts of functions, walks. No condition of its own. -/
import Derived.Test.YtkgdjhhokbbheaaDoorRows
import Derived.WalkKit
import Derived.ProofKit
import Derived.OpenShut
import Derived.ShutString
import Derived.ChangeOld
import Derived.Below
import Derived.SizedLaws
import Derived.LaidMore
import Derived.Lay
import Derived.Stop.Joined
import Derived.Lib.LaidTab
import Derived.Lib.Space
import Derived.Test.YtkgdjhhokbbheaaDoorPB21
section
namespace Go.Proofs.YtkgdjhhokbbheaaDoor.fnExactShowFunc
open Go.ChangeShapes Go.WideShapes Go.ChangeAt Go.RowKit Go.Proofs.YtkgdjhhokbbheaaDoorW.PrintWords Go.Proofs.YtkgdjhhokbbheaaDoor.Open
open Go.ChangeMaps (open_string shut_string)
set_option linter.unusedVariables false
set_option linter.unusedSimpArgs false
theorem own : ownKnob Tryd.prog.godebug = none := by kernel_rfl
theorem laidOut : laidOutB Tryd.prog = true := by kernel_rfl
def G3 (n : Int) : Prop := (Lit.int .i64 n).wf = true
theorem op3 {H : Type} {enc : TypeId × Value → H} {w : World} {base : Nat} {spare : Nat → Bool} {held : Bool} : Opens enc Tryd.prog w base spare held 3 (Kd.int .i64) G3 := opens_int Tryd.underlying3
def G4 (_ : Bool) : Prop := True
theorem op4 {H : Type} {enc : TypeId × Value → H} {w : World} {base : Nat} {spare : Nat → Bool} {held : Bool} : Opens enc Tryd.prog w base spare held 4 Kd.bool G4 := opens_bool Tryd.underlying4
def Gt115 (x : Bool × Int) : Prop := G4 x.1 ∧ G3 x.2
theorem opt115 {H : Type} {enc : TypeId × Value → H} {w : World} {base : Nat} {spare : Nat → Bool} {held : Bool} : Opens enc Tryd.prog w base spare held 115 (Kd.pair Kd.bool (Kd.int .i64)) Gt115 := opens_struct Tryd.underlying115 (by kernel_rfl) (fields_cons rfl (by kernel_rfl) op4 (fields_one rfl (by kernel_rfl) op3))
def G115 (x : Go.Proofs.YtkgdjhhokbbheaaDoor.Cap) : Prop := Gt115 (x.reg, x.index)
theorem op115 {H : Type} {enc : TypeId × Value → H} {w : World} {base : Nat} {spare : Nat → Bool} {held : Bool} : Opens enc Tryd.prog w base spare held 115 Go.Proofs.YtkgdjhhokbbheaaDoor.kCap G115 := opens_iso (fun x : Go.Proofs.YtkgdjhhokbbheaaDoor.Cap => (x.reg, x.index)) (fun t => ⟨t.1, t.2⟩) (fun _ => rfl) opt115
def G64 (xs : List Go.Proofs.YtkgdjhhokbbheaaDoor.Cap) : Prop := xs.length ≤ maxLen ∧ ∀ x ∈ xs, G115 x
theorem op64 {H : Type} {enc : TypeId × Value → H} {w : World} {base : Nat} {spare : Nat → Bool} {held : Bool} : Opens enc Tryd.prog w base spare held 64 (Kd.slice 115 Go.Proofs.YtkgdjhhokbbheaaDoor.kCap) G64 := opens_slice Tryd.underlying64 (by kernel_rfl) op115
def Gt23 (x : Int × Int × Int) : Prop := G3 x.1 ∧ G3 x.2.1 ∧ G3 x.2.2
theorem opt23 {H : Type} {enc : TypeId × Value → H} {w : World} {base : Nat} {spare : Nat → Bool} {held : Bool} : Opens enc Tryd.prog w base spare held 23 (Kd.pair (Kd.int .i64) (Kd.pair (Kd.int .i64) (Kd.int .i64))) Gt23 := opens_struct Tryd.underlying23 (by kernel_rfl) (fields_cons rfl (by kernel_rfl) op3 (fields_cons rfl (by kernel_rfl) op3 (fields_one rfl (by kernel_rfl) op3)))
def G23 (x : Go.Proofs.YtkgdjhhokbbheaaDoor.Ins) : Prop := Gt23 (x.op, x.a, x.b)
theorem op23 {H : Type} {enc : TypeId × Value → H} {w : World} {base : Nat} {spare : Nat → Bool} {held : Bool} : Opens enc Tryd.prog w base spare held 23 Go.Proofs.YtkgdjhhokbbheaaDoor.kIns G23 := opens_iso (fun x : Go.Proofs.YtkgdjhhokbbheaaDoor.Ins => (x.op, x.a, x.b)) (fun t => ⟨t.1, t.2.1, t.2.2⟩) (fun _ => rfl) opt23
def G65 (xs : List Go.Proofs.YtkgdjhhokbbheaaDoor.Ins) : Prop := xs.length ≤ maxLen ∧ ∀ x ∈ xs, G23 x
theorem op65 {H : Type} {enc : TypeId × Value → H} {w : World} {base : Nat} {spare : Nat → Bool} {held : Bool} : Opens enc Tryd.prog w base spare held 65 (Kd.slice 23 Go.Proofs.YtkgdjhhokbbheaaDoor.kIns) G65 := opens_slice Tryd.underlying65 (by kernel_rfl) op23
def Gt117 (x : Int × Int × Int) : Prop := G3 x.1 ∧ G3 x.2.1 ∧ G3 x.2.2
theorem opt117 {H : Type} {enc : TypeId × Value → H} {w : World} {base : Nat} {spare : Nat → Bool} {held : Bool} : Opens enc Tryd.prog w base spare held 117 (Kd.pair (Kd.int .i64) (Kd.pair (Kd.int .i64) (Kd.int .i64))) Gt117 := opens_struct Tryd.underlying117 (by kernel_rfl) (fields_cons rfl (by kernel_rfl) op3 (fields_cons rfl (by kernel_rfl) op3 (fields_one rfl (by kernel_rfl) op3)))
def G117 (x : Go.Proofs.YtkgdjhhokbbheaaDoor.Handler) : Prop := Gt117 (x.from_, x.to_, x.target)
theorem op117 {H : Type} {enc : TypeId × Value → H} {w : World} {base : Nat} {spare : Nat → Bool} {held : Bool} : Opens enc Tryd.prog w base spare held 117 Go.Proofs.YtkgdjhhokbbheaaDoor.kHandler G117 := opens_iso (fun x : Go.Proofs.YtkgdjhhokbbheaaDoor.Handler => (x.from_, x.to_, x.target)) (fun t => ⟨t.1, t.2.1, t.2.2⟩) (fun _ => rfl) opt117
def G66 (xs : List Go.Proofs.YtkgdjhhokbbheaaDoor.Handler) : Prop := xs.length ≤ maxLen ∧ ∀ x ∈ xs, G117 x
theorem op66 {H : Type} {enc : TypeId × Value → H} {w : World} {base : Nat} {spare : Nat → Bool} {held : Bool} : Opens enc Tryd.prog w base spare held 66 (Kd.slice 117 Go.Proofs.YtkgdjhhokbbheaaDoor.kHandler) G66 := opens_slice Tryd.underlying66 (by kernel_rfl) op117
def Gt68 (x : Int × Int × (List Go.Proofs.YtkgdjhhokbbheaaDoor.Cap) × (List Go.Proofs.YtkgdjhhokbbheaaDoor.Ins) × (List Go.Proofs.YtkgdjhhokbbheaaDoor.Handler)) : Prop := G3 x.1 ∧ G3 x.2.1 ∧ G64 x.2.2.1 ∧ G65 x.2.2.2.1 ∧ G66 x.2.2.2.2
theorem opt68 {H : Type} {enc : TypeId × Value → H} {w : World} {base : Nat} {spare : Nat → Bool} {held : Bool} : Opens enc Tryd.prog w base spare held 68 (Kd.pair (Kd.int .i64) (Kd.pair (Kd.int .i64) (Kd.pair (Kd.slice 115 Go.Proofs.YtkgdjhhokbbheaaDoor.kCap) (Kd.pair (Kd.slice 23 Go.Proofs.YtkgdjhhokbbheaaDoor.kIns) (Kd.slice 117 Go.Proofs.YtkgdjhhokbbheaaDoor.kHandler))))) Gt68 := opens_struct Tryd.underlying68 (by kernel_rfl) (fields_cons rfl (by kernel_rfl) op3 (fields_cons rfl (by kernel_rfl) op3 (fields_cons rfl (by kernel_rfl) op64 (fields_cons rfl (by kernel_rfl) op65 (fields_one rfl (by kernel_rfl) op66)))))
def G68 (x : Go.Proofs.YtkgdjhhokbbheaaDoor.Func) : Prop := Gt68 (x.params, x.regs, x.caps, x.code, x.handlers)
theorem op68 {H : Type} {enc : TypeId × Value → H} {w : World} {base : Nat} {spare : Nat → Bool} {held : Bool} : Opens enc Tryd.prog w base spare held 68 Go.Proofs.YtkgdjhhokbbheaaDoor.kFuncL G68 := opens_iso (fun x : Go.Proofs.YtkgdjhhokbbheaaDoor.Func => (x.params, x.regs, x.caps, x.code, x.handlers)) (fun t => ⟨t.1, t.2.1, t.2.2.1, t.2.2.2.1, t.2.2.2.2⟩) (fun _ => rfl) opt68
def G28 (xs : List Go.Proofs.YtkgdjhhokbbheaaDoor.Func) : Prop := xs.length ≤ maxLen ∧ ∀ x ∈ xs, G68 x
theorem op28 {H : Type} {enc : TypeId × Value → H} {w : World} {base : Nat} {spare : Nat → Bool} {held : Bool} : Opens enc Tryd.prog w base spare held 28 (Kd.slice 68 Go.Proofs.YtkgdjhhokbbheaaDoor.kFuncL) G28 := opens_slice Tryd.underlying28 (by kernel_rfl) op68
def G70 (n : Int) : Prop := (Lit.int .u64 n).wf = true
theorem op70 {H : Type} {enc : TypeId × Value → H} {w : World} {base : Nat} {spare : Nat → Bool} {held : Bool} : Opens enc Tryd.prog w base spare held 70 (Kd.int .u64) G70 := opens_int Tryd.underlying70
def G9 (s : ByteArray) : Prop := s.size ≤ maxLen
theorem op9 {H : Type} {enc : TypeId × Value → H} {w : World} {base : Nat} {spare : Nat → Bool} {held : Bool} : Opens enc Tryd.prog w base spare held 9 Kd.string G9 := opens_string Tryd.underlying9
def Gt72 (x : Int × Int × ByteArray) : Prop := G3 x.1 ∧ G70 x.2.1 ∧ G9 x.2.2
theorem opt72 {H : Type} {enc : TypeId × Value → H} {w : World} {base : Nat} {spare : Nat → Bool} {held : Bool} : Opens enc Tryd.prog w base spare held 72 (Kd.pair (Kd.int .i64) (Kd.pair (Kd.int .u64) Kd.string)) Gt72 := opens_struct Tryd.underlying72 (by kernel_rfl) (fields_cons rfl (by kernel_rfl) op3 (fields_cons rfl (by kernel_rfl) op70 (fields_one rfl (by kernel_rfl) op9)))
def G72 (x : Go.Proofs.YtkgdjhhokbbheaaDoor.Const) : Prop := Gt72 (x.kind, x.num, x.text)
theorem op72 {H : Type} {enc : TypeId × Value → H} {w : World} {base : Nat} {spare : Nat → Bool} {held : Bool} : Opens enc Tryd.prog w base spare held 72 Go.Proofs.YtkgdjhhokbbheaaDoor.kConst G72 := opens_iso (fun x : Go.Proofs.YtkgdjhhokbbheaaDoor.Const => (x.kind, x.num, x.text)) (fun t => ⟨t.1, t.2.1, t.2.2⟩) (fun _ => rfl) opt72
def G29 (xs : List Go.Proofs.YtkgdjhhokbbheaaDoor.Const) : Prop := xs.length ≤ maxLen ∧ ∀ x ∈ xs, G72 x
theorem op29 {H : Type} {enc : TypeId × Value → H} {w : World} {base : Nat} {spare : Nat → Bool} {held : Bool} : Opens enc Tryd.prog w base spare held 29 (Kd.slice 72 Go.Proofs.YtkgdjhhokbbheaaDoor.kConst) G29 := opens_slice Tryd.underlying29 (by kernel_rfl) op72
def Gt31 (x : (List Go.Proofs.YtkgdjhhokbbheaaDoor.Func) × (List Go.Proofs.YtkgdjhhokbbheaaDoor.Const)) : Prop := G28 x.1 ∧ G29 x.2
abbrev G31 := Gt31
theorem op31 {H : Type} {enc : TypeId × Value → H} {w : World} {base : Nat} {spare : Nat → Bool} {held : Bool} : Opens enc Tryd.prog w base spare held 31 (Kd.pair (Kd.slice 68 Go.Proofs.YtkgdjhhokbbheaaDoor.kFuncL) (Kd.slice 72 Go.Proofs.YtkgdjhhokbbheaaDoor.kConst)) G31 := opens_struct Tryd.underlying31 (by kernel_rfl) (fields_cons rfl (by kernel_rfl) op28 (fields_one rfl (by kernel_rfl) op29))
abbrev laidL : List (String × DataW Unit) := [("unicode.White_Space", Rows.laid_unicode_White_Space), ("strings.asciiSpace", Rows.laid_strings_asciiSpace)]
theorem door_met (os : Os) (args : Array Value) : laidMetH Tryd.prog laidL ((World.doorLaid Tryd.prog 400 os).forCall (fun _ _ => 0) ⟨#[], args, []⟩).memory :=
  laidMetH_of_parts3 (fuel := 8) (laidMet_of_run' 8 (by kernel_rfl) (by kernel_rfl)) (by kernel_rfl) (by kernel_rfl)
theorem tab_eq : (Rows.laid_strings_asciiSpace : DataW Unit) = Lib.tabData .u8 Lib.asciiSpaceTab := by kernel_rfl
theorem tab_of {W : World} (h : laidMetH Tryd.prog laidL W) : Lib.TabIs Tryd.prog W "strings.asciiSpace" .u8 Lib.asciiSpaceTab := by
  rw [MakeChecks.laidMetH_plain _ _ _ (by kernel_rfl)] at h
  obtain ⟨ps, ⟨g0, t0, cs0, f0, p0, q0, hg0, ht0, hv0, hd0, ⟨g1, t1, cs1, f1, p1, q1, hg1, ht1, hv1, hd1, _, _⟩, _⟩, _, _⟩ := h
  obtain rfl := Option.some.inj ((show Tryd.prog.globalNamed "strings.asciiSpace" = some 0 by kernel_rfl).symm.trans hg1)
  obtain rfl := Option.some.inj ((show (Tryd.prog.globals[0]?).map (·.type) = some 60 by kernel_rfl).symm.trans ht1)
  rw [tab_eq] at hd1
  unfold Lib.TabIs
  rw [hv1, ← Lib.cells_of_tab Tryd.underlying60 Tryd.underlying5 (by kernel_rfl) (by kernel_rfl) hd1]
set_option maxRecDepth 100000 in
theorem lifted (os : Os) (started : os.Started) (H : Type) (enc : TypeId × Value → H) :
    ReturnsInHanded {} Tryd.checked os 4 .any (fun w args => (Rows.fnExactShowFuncSpec.pre enc Tryd.prog Tryd.f4 Rows.fnExactShowFuncRow.domain false w args ∧ laidMetH Tryd.prog laidL w) ∧ sizedMet enc Tryd.prog Tryd.f4 (OpenSpec.ofChange Rows.fnExactShowFuncSpec) false w args) (Rows.fnExactShowFuncSpec.post enc Tryd.prog Tryd.f4 false true false false) := by
  refine returnsInHanded_of_change_and (C := Tryd.checked) (X := fun w _ => laidMetH Tryd.prog laidL w) (fun _ _ _ hh h => h.of_heap hh) own started (by kernel_rfl) Tryd.func4
    (ChangeSpec.witness_shaped (enc := enc) (C := Tryd.checked) (os := os) (X := fun w _ => laidMetH Tryd.prog laidL w) false (World.doorLaid Tryd.prog 400 os) #[.agg #[.slice none 0 0, .slice none 0 0], .int .i64 0] 8 rfl (World.shaped_of_RefB (by kernel_rfl) (by kernel_rfl)) (by kernel_rfl) (by kernel_rfl) (by kernel_rfl) (door_met os _)) ?_
  intro W base args ds gs before hval0 hW hcnd hsz0 hL _
  have hval : ∀ (j : Nat) t v, Tryd.f4.params[j]? = some t → args[j]? = some v → Value.okWide Tryd.prog W .any base t v := hval0
  have hW' := hW
  obtain ⟨p, q, hA0, hV, rfl, hfz, hnd⟩ := hW
  have hA : DataW.TrodAll enc Tryd.prog W 0 (fun _ => true) true Tryd.f4.params.toList args.toList ds p := hA0
  rw [Tryd.params4] at hA hval
  obtain ⟨v0, vs0, d0, ds0, p0, q0, hargs0, rfl, rfl, h0, r0⟩ := trodAll_cons hA
  obtain ⟨v1, vs1, d1, ds1, p1, q1, hargs1, rfl, rfl, h1, r1⟩ := trodAll_cons r0
  obtain ⟨rfl, rfl, rfl⟩ := trodAll_nil r1
  obtain rfl : args = #[v0, v1] := by cases args; simp_all
  obtain ⟨rfl, rfl⟩ := trodVars_none hV
  have k0 := h0
  have lt0 : ∀ x ∈ p0, x.block < W.heap.size := by obtain ⟨m, hm⟩ := k0; exact DataW.trod_lt m _ _ _ hm
  obtain ⟨cs0, rfl, hcz0⟩ := okWide_struct Tryd.underlying31 (hval 0 31 v0 rfl rfl)
  obtain ⟨x0, hk0, hg0⟩ := opens_arg op31 h0
  obtain ⟨x0_0, x0_1⟩ := x0
  obtain ⟨_, _, e0, ⟨A0_0, c0_0, rfl, hl0_0, hr0_0⟩, ⟨A0_1, c0_1, rfl, hl0_1, hr0_1⟩⟩ := hk0
  obtain rfl : cs0 = #[.slice A0_0 x0_0.length c0_0, .slice A0_1 x0_1.length c0_1] := by obtain ⟨l⟩ := cs0; exact congrArg Array.mk e0
  have k1 := h1
  have lt1 : ∀ x ∈ p1, x.block < W.heap.size := by obtain ⟨m, hm⟩ := k1; exact DataW.trod_lt m _ _ _ hm
  obtain ⟨a1, rfl⟩ := okWide_int Tryd.underlying3 (hval 1 3 v1 rfl rfl)
  obtain ⟨x1, hk1, hg1⟩ := opens_arg op3 h1
  obtain rfl : x1 = a1 := by have e : [_] = [_] := hk1; injection e with e _; injection e with e1 e2; exact e2.symm
  clear hA0 hval0 hsz0
  refine (LawFnExactShowFunc.law A0_0 c0_0 x0_0 A0_1 c0_1 x0_1 x1 W hr0_0 hl0_0 hr0_1 hl0_1 hg0 hg1 (tab_of hL)).mono fun e W' ⟨he, bel⟩ => ?_
  subst he
  exact ⟨_, rfl, _, _, _, [], _, [], hW', trodAll_mk1 (shut_bool Tryd.underlying4 _), (trodAll_cons_mk (Below.trod laidOut (by kernel_rfl) (of_decide_eq_true (by kernel_rfl)) k0 bel lt0) (trodAll_cons_mk (Below.trod laidOut (by kernel_rfl) (of_decide_eq_true (by kernel_rfl)) k1 bel lt1) trodAll_mk0)), rfl, bel.frame _, fun h => by cases h⟩
theorem and_true_ {a b : Bool} (ha : a = true) (hb : b = true) : (a && b) = true := by rw [ha, hb]; rfl
theorem closed0 : (Rows.fnExactShowFuncRow.wf (OpenSpec.ofChange Rows.fnExactShowFuncSpec)) = true := by kernel_rfl
theorem closed1 : (laidOutB Tryd.pinned.checked.prog) = true := by kernel_rfl
theorem closed2 : (mapsRowed Tryd.pinned.checked.prog) = true := by kernel_rfl
theorem closed3 : (Tryd.f4.params.all (Tryd.pinned.checked.prog.readableRec ·)) = true := by kernel_rfl
theorem closed4 : (namedTie Tryd.pinned.checked.prog Rows.fnExactShowFuncRow.named Rows.fnExactShowFuncSpec.vars) = true := by kernel_rfl
theorem closed5 : ((Rows.fnExactShowFuncRow.stops == [])) = true := by kernel_rfl
theorem closed6 : ((Tryd.pinned.checked.prog.stops == [])) = true := by kernel_rfl
theorem closed7 : ((Rows.fnExactShowFuncRow.knobs == [])) = true := by kernel_rfl
theorem closed8 : ((Tryd.pinned.checked.prog.stopKnobs == [])) = true := by kernel_rfl
theorem closed9 : ((Rows.fnExactShowFuncRow.inPlace == Tryd.pinned.checked.prog.inPlace 4)) = true := by kernel_rfl
theorem closed10 : ((Rows.fnExactShowFuncRow.unfollowed == Tryd.pinned.checked.prog.unfollowed 4)) = true := by kernel_rfl
theorem closed11 : ((Rows.fnExactShowFuncRow.recurses == Tryd.pinned.checked.prog.recurses 4)) = true := by kernel_rfl
theorem closed12 : ((Rows.fnExactShowFuncRow.named == Tryd.pinned.checked.prog.varsNamed 4)) = true := by kernel_rfl
theorem closed13 : ((Rows.fnExactShowFuncRow.maps == ((Tryd.f4.params.toList ++ Rows.fnExactShowFuncSpec.plain.varTypes Tryd.pinned.checked.prog)).any (Tryd.pinned.checked.prog.mapsRec ·))) = true := by kernel_rfl
theorem closed14 : ((Rows.fnExactShowFuncRow.ifaces == ((Tryd.f4.params.toList ++ Rows.fnExactShowFuncSpec.plain.varTypes Tryd.pinned.checked.prog)).any (Tryd.pinned.checked.prog.ifacesRec ·))) = true := by kernel_rfl
theorem closed15 : ((Rows.fnExactShowFuncRow.mapsOut == Tryd.pinned.checked.prog.mapsAmong Tryd.f4.resultTypes.toList)) = true := by kernel_rfl
theorem closed16 : ((Rows.fnExactShowFuncRow.loops == ((Tryd.f4.params.toList ++ Rows.fnExactShowFuncSpec.plain.varTypes Tryd.pinned.checked.prog)).any (Tryd.pinned.checked.prog.loopsFrom ·))) = true := by kernel_rfl
theorem closed17 : ((Rows.fnExactShowFuncRow.wideKeys == (Tryd.f4.params.toList ++ Rows.fnExactShowFuncSpec.plain.varTypes Tryd.pinned.checked.prog ++ Tryd.f4.resultTypes.toList).any (Tryd.pinned.checked.prog.wideKeysFrom ·))) = true := by kernel_rfl
theorem closed18 : (Rows.fnExactShowFuncSpec.vars.all (Tryd.pinned.checked.prog.varReadable ·)) = true := by kernel_rfl
theorem closed19 : (Tryd.f4.resultTypes.all (fun t => Tryd.pinned.checked.prog.readableRec t && decide (t < Tryd.pinned.checked.prog.types.size))) = true := by kernel_rfl
theorem closed20 : ((Rows.fnExactShowFuncRow.ifacesOut == Tryd.f4.resultTypes.toList.any (Tryd.pinned.checked.prog.ifacesRec ·))) = true := by kernel_rfl
theorem closed21 : ((Rows.fnExactShowFuncRow.loopsOut == Tryd.f4.resultTypes.toList.any (Tryd.pinned.checked.prog.loopsFrom ·))) = true := by kernel_rfl
theorem closed22 : ((Rows.fnExactShowFuncRow.plainKeys == Tryd.pinned.checked.prog.plainKeys)) = true := by kernel_rfl
theorem closed23 : (Rows.fnExactShowFuncRow.shortTexts.isNone) = true := by kernel_rfl
theorem closed24 : (Tryd.pinned.checked.prog.stopsHeard) = true := by kernel_rfl
theorem closed25 : (Tryd.pinned.checked.prog.mayEnter) = true := by kernel_rfl
theorem closed26 : ((Rows.fnExactShowFuncRow.lifted == Tryd.pinned.checked.prog.liftsFinal)) = true := by kernel_rfl
theorem closed27 : ((Tryd.pinned.checked.prog.make == some Rows.fnExactShowFuncRow.make)) = true := by kernel_rfl
theorem closed28 : ((Rows.fnExactShowFuncRow.kinds == (if Rows.fnExactShowFuncRow.domain.isEmpty then [] else Tryd.f4.params.toList.map fun t => match Tryd.pinned.checked.prog.underlying t with | some (.int k) => some k | _ => none))) = true := by kernel_rfl
theorem closed29 : ((Rows.fnExactShowFuncRow.pinned == Rows.fnExactShowFuncRow.pinnedBy)) = true := by kernel_rfl
theorem closed30 : ((Rows.fnExactShowFuncRow.veiled == (Tryd.f4.params.toList ++ Rows.fnExactShowFuncSpec.plain.varTypes Tryd.pinned.checked.prog ++ Tryd.f4.resultTypes.toList).any (Tryd.pinned.checked.prog.veiledRec ·))) = true := by kernel_rfl
theorem closed31 : (Rows.fnExactShowFuncRow.veiledFits Tryd.pinned.checked.prog Tryd.f4.params.toList (Tryd.f4.params.toList ++ Rows.fnExactShowFuncSpec.plain.varTypes Tryd.pinned.checked.prog ++ Tryd.f4.resultTypes.toList)) = true := by kernel_rfl
set_option maxRecDepth 100000 in
theorem closed : joinedFacts Tryd.pinned.checked.prog 4 Tryd.f4 Rows.fnExactShowFuncSpec Rows.fnExactShowFuncRow = true := by
  show (Rows.fnExactShowFuncRow.wf (OpenSpec.ofChange Rows.fnExactShowFuncSpec) && laidOutB Tryd.pinned.checked.prog && mapsRowed Tryd.pinned.checked.prog && Tryd.f4.params.all (Tryd.pinned.checked.prog.readableRec ·) && namedTie Tryd.pinned.checked.prog Rows.fnExactShowFuncRow.named Rows.fnExactShowFuncSpec.vars && (Rows.fnExactShowFuncRow.stops == []) && (Tryd.pinned.checked.prog.stops == []) && (Rows.fnExactShowFuncRow.knobs == []) && (Tryd.pinned.checked.prog.stopKnobs == []) && (Rows.fnExactShowFuncRow.inPlace == Tryd.pinned.checked.prog.inPlace 4) && (Rows.fnExactShowFuncRow.unfollowed == Tryd.pinned.checked.prog.unfollowed 4) && (Rows.fnExactShowFuncRow.recurses == Tryd.pinned.checked.prog.recurses 4) && (Rows.fnExactShowFuncRow.named == Tryd.pinned.checked.prog.varsNamed 4) && (Rows.fnExactShowFuncRow.maps == ((Tryd.f4.params.toList ++ Rows.fnExactShowFuncSpec.plain.varTypes Tryd.pinned.checked.prog)).any (Tryd.pinned.checked.prog.mapsRec ·)) && (Rows.fnExactShowFuncRow.ifaces == ((Tryd.f4.params.toList ++ Rows.fnExactShowFuncSpec.plain.varTypes Tryd.pinned.checked.prog)).any (Tryd.pinned.checked.prog.ifacesRec ·)) && (Rows.fnExactShowFuncRow.mapsOut == Tryd.pinned.checked.prog.mapsAmong Tryd.f4.resultTypes.toList) && (Rows.fnExactShowFuncRow.loops == ((Tryd.f4.params.toList ++ Rows.fnExactShowFuncSpec.plain.varTypes Tryd.pinned.checked.prog)).any (Tryd.pinned.checked.prog.loopsFrom ·)) && (Rows.fnExactShowFuncRow.wideKeys == (Tryd.f4.params.toList ++ Rows.fnExactShowFuncSpec.plain.varTypes Tryd.pinned.checked.prog ++ Tryd.f4.resultTypes.toList).any (Tryd.pinned.checked.prog.wideKeysFrom ·)) && Rows.fnExactShowFuncSpec.vars.all (Tryd.pinned.checked.prog.varReadable ·) && Tryd.f4.resultTypes.all (fun t => Tryd.pinned.checked.prog.readableRec t && decide (t < Tryd.pinned.checked.prog.types.size)) && (Rows.fnExactShowFuncRow.ifacesOut == Tryd.f4.resultTypes.toList.any (Tryd.pinned.checked.prog.ifacesRec ·)) && (Rows.fnExactShowFuncRow.loopsOut == Tryd.f4.resultTypes.toList.any (Tryd.pinned.checked.prog.loopsFrom ·)) && (Rows.fnExactShowFuncRow.plainKeys == Tryd.pinned.checked.prog.plainKeys) && Rows.fnExactShowFuncRow.shortTexts.isNone && Tryd.pinned.checked.prog.stopsHeard && Tryd.pinned.checked.prog.mayEnter && (Rows.fnExactShowFuncRow.lifted == Tryd.pinned.checked.prog.liftsFinal) && (Tryd.pinned.checked.prog.make == some Rows.fnExactShowFuncRow.make) && (Rows.fnExactShowFuncRow.kinds == (if Rows.fnExactShowFuncRow.domain.isEmpty then [] else Tryd.f4.params.toList.map fun t => match Tryd.pinned.checked.prog.underlying t with | some (.int k) => some k | _ => none)) && (Rows.fnExactShowFuncRow.pinned == Rows.fnExactShowFuncRow.pinnedBy) && (Rows.fnExactShowFuncRow.veiled == (Tryd.f4.params.toList ++ Rows.fnExactShowFuncSpec.plain.varTypes Tryd.pinned.checked.prog ++ Tryd.f4.resultTypes.toList).any (Tryd.pinned.checked.prog.veiledRec ·)) && Rows.fnExactShowFuncRow.veiledFits Tryd.pinned.checked.prog Tryd.f4.params.toList (Tryd.f4.params.toList ++ Rows.fnExactShowFuncSpec.plain.varTypes Tryd.pinned.checked.prog ++ Tryd.f4.resultTypes.toList)) = true
  exact (and_true_ (and_true_ (and_true_ (and_true_ (and_true_ (and_true_ (and_true_ (and_true_ (and_true_ (and_true_ (and_true_ (and_true_ (and_true_ (and_true_ (and_true_ (and_true_ (and_true_ (and_true_ (and_true_ (and_true_ (and_true_ (and_true_ (and_true_ (and_true_ (and_true_ (and_true_ (and_true_ (and_true_ (and_true_ (and_true_ (and_true_ closed0 closed1) closed2) closed3) closed4) closed5) closed6) closed7) closed8) closed9) closed10) closed11) closed12) closed13) closed14) closed15) closed16) closed17) closed18) closed19) closed20) closed21) closed22) closed23) closed24) closed25) closed26) closed27) closed28) closed29) closed30) closed31)
theorem named : Tryd.pinned.checked.prog.funcNamed Rows.fnExactShowFuncRow.func = some 4 := by kernel_rfl
theorem over : Rows.fnExactShowFuncRow.holds Tryd.pinned (OpenSpec.ofChange Rows.fnExactShowFuncSpec) :=
  OpenClaim.holds_of_wide 4 Tryd.f4 rfl rfl rfl rfl rfl rfl rfl ⟨rfl, rfl, rfl, rfl, rfl⟩ rfl rfl rfl rfl rfl named Tryd.func4 closed
    (of_decide_eq_true (by kernel_rfl)) (by unfold Func.isWrapper; first | (rw [if_pos (by decide +kernel)]; kernel_rfl) | (rw [if_neg (by decide +kernel)]; exact ⟨rfl, rfl⟩))
    (fun os started H enc _ => lifted os started H enc)
theorem proved : Rows.FnExactShowFuncSaid := over
#print axioms proved
end Go.Proofs.YtkgdjhhokbbheaaDoor.fnExactShowFunc
namespace Go.Proofs.YtkgdjhhokbbheaaDoor
/-- The row, under a short name, for the claim. -/
theorem fnExactShowFunc_holds : Rows.FnExactShowFuncSaid := fnExactShowFunc.proved
end Go.Proofs.YtkgdjhhokbbheaaDoor
end
