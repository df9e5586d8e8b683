/- The row of 'FnExactStates': for every input the law returns true, and each argument reads behind the call as it read before. No condition. -/
import Derived.Test.YtcbaokflimdjnaaRows
import Derived.WalkKit
import Derived.ProofKit
import Derived.OpenShut
import Derived.ShutString
import Derived.ChangeOld
import Derived.Below
import Derived.SizedLaws
import Derived.Test.YtcbaokflimdjnaaSts22
section
namespace Go.Proofs.Ytcbaokflimdjnaa.fnExactStates
open Go.ChangeShapes Go.WideShapes Go.ChangeAt Go.RowKit Go.Proofs.YtcbaokflimdjnaaW.PrintWords Go.Proofs.Ytcbaokflimdjnaa.Open
open Go.ChangeMaps (open_string shut_string)
set_option linter.unusedVariables false
set_option linter.unusedSimpArgs false
theorem own : ownKnob Try.prog.godebug = none := by kernel_rfl
theorem laidOut : laidOutB Try.prog = true := by kernel_rfl
def G3 (n : Int) : Prop := (Lit.int .i64 n).wf = true
theorem op3 {H : Type} {enc : TypeId × Value → H} {w : World} {base : Nat} {spare : Nat → Bool} {held : Bool} : Opens enc Try.prog w base spare held 3 (Kd.int .i64) G3 := opens_int Try.underlying3
def G4 (_ : Bool) : Prop := True
theorem op4 {H : Type} {enc : TypeId × Value → H} {w : World} {base : Nat} {spare : Nat → Bool} {held : Bool} : Opens enc Try.prog w base spare held 4 Kd.bool G4 := opens_bool Try.underlying4
def Gt197 (x : Bool × Int) : Prop := G4 x.1 ∧ G3 x.2
theorem opt197 {H : Type} {enc : TypeId × Value → H} {w : World} {base : Nat} {spare : Nat → Bool} {held : Bool} : Opens enc Try.prog w base spare held 197 (Kd.pair Kd.bool (Kd.int .i64)) Gt197 := opens_struct Try.underlying197 (by kernel_rfl) (fields_cons rfl (by kernel_rfl) op4 (fields_one rfl (by kernel_rfl) op3))
def G197 (x : Go.Proofs.Ytcbaokflimdjnaa.Cap) : Prop := Gt197 (x.reg, x.index)
theorem op197 {H : Type} {enc : TypeId × Value → H} {w : World} {base : Nat} {spare : Nat → Bool} {held : Bool} : Opens enc Try.prog w base spare held 197 Go.Proofs.Ytcbaokflimdjnaa.kCap G197 := opens_iso (fun x : Go.Proofs.Ytcbaokflimdjnaa.Cap => (x.reg, x.index)) (fun t => ⟨t.1, t.2⟩) (fun _ => rfl) opt197
def G125 (xs : List Go.Proofs.Ytcbaokflimdjnaa.Cap) : Prop := xs.length ≤ maxLen ∧ ∀ x ∈ xs, G197 x
theorem op125 {H : Type} {enc : TypeId × Value → H} {w : World} {base : Nat} {spare : Nat → Bool} {held : Bool} : Opens enc Try.prog w base spare held 125 (Kd.slice 197 Go.Proofs.Ytcbaokflimdjnaa.kCap) G125 := opens_slice Try.underlying125 (by kernel_rfl) op197
def Gt199 (x : Int × Int × Int) : Prop := G3 x.1 ∧ G3 x.2.1 ∧ G3 x.2.2
theorem opt199 {H : Type} {enc : TypeId × Value → H} {w : World} {base : Nat} {spare : Nat → Bool} {held : Bool} : Opens enc Try.prog w base spare held 199 (Kd.pair (Kd.int .i64) (Kd.pair (Kd.int .i64) (Kd.int .i64))) Gt199 := opens_struct Try.underlying199 (by kernel_rfl) (fields_cons rfl (by kernel_rfl) op3 (fields_cons rfl (by kernel_rfl) op3 (fields_one rfl (by kernel_rfl) op3)))
def G199 (x : Go.Proofs.Ytcbaokflimdjnaa.Ins) : Prop := Gt199 (x.op, x.a, x.b)
theorem op199 {H : Type} {enc : TypeId × Value → H} {w : World} {base : Nat} {spare : Nat → Bool} {held : Bool} : Opens enc Try.prog w base spare held 199 Go.Proofs.Ytcbaokflimdjnaa.kIns G199 := opens_iso (fun x : Go.Proofs.Ytcbaokflimdjnaa.Ins => (x.op, x.a, x.b)) (fun t => ⟨t.1, t.2.1, t.2.2⟩) (fun _ => rfl) opt199
def G126 (xs : List Go.Proofs.Ytcbaokflimdjnaa.Ins) : Prop := xs.length ≤ maxLen ∧ ∀ x ∈ xs, G199 x
theorem op126 {H : Type} {enc : TypeId × Value → H} {w : World} {base : Nat} {spare : Nat → Bool} {held : Bool} : Opens enc Try.prog w base spare held 126 (Kd.slice 199 Go.Proofs.Ytcbaokflimdjnaa.kIns) G126 := opens_slice Try.underlying126 (by kernel_rfl) op199
def Gt201 (x : Int × Int × Int) : Prop := G3 x.1 ∧ G3 x.2.1 ∧ G3 x.2.2
theorem opt201 {H : Type} {enc : TypeId × Value → H} {w : World} {base : Nat} {spare : Nat → Bool} {held : Bool} : Opens enc Try.prog w base spare held 201 (Kd.pair (Kd.int .i64) (Kd.pair (Kd.int .i64) (Kd.int .i64))) Gt201 := opens_struct Try.underlying201 (by kernel_rfl) (fields_cons rfl (by kernel_rfl) op3 (fields_cons rfl (by kernel_rfl) op3 (fields_one rfl (by kernel_rfl) op3)))
def G201 (x : Go.Proofs.Ytcbaokflimdjnaa.Handler) : Prop := Gt201 (x.from_, x.to_, x.target)
theorem op201 {H : Type} {enc : TypeId × Value → H} {w : World} {base : Nat} {spare : Nat → Bool} {held : Bool} : Opens enc Try.prog w base spare held 201 Go.Proofs.Ytcbaokflimdjnaa.kHandler G201 := opens_iso (fun x : Go.Proofs.Ytcbaokflimdjnaa.Handler => (x.from_, x.to_, x.target)) (fun t => ⟨t.1, t.2.1, t.2.2⟩) (fun _ => rfl) opt201
def G127 (xs : List Go.Proofs.Ytcbaokflimdjnaa.Handler) : Prop := xs.length ≤ maxLen ∧ ∀ x ∈ xs, G201 x
theorem op127 {H : Type} {enc : TypeId × Value → H} {w : World} {base : Nat} {spare : Nat → Bool} {held : Bool} : Opens enc Try.prog w base spare held 127 (Kd.slice 201 Go.Proofs.Ytcbaokflimdjnaa.kHandler) G127 := opens_slice Try.underlying127 (by kernel_rfl) op201
def Gt129 (x : Int × Int × (List Go.Proofs.Ytcbaokflimdjnaa.Cap) × (List Go.Proofs.Ytcbaokflimdjnaa.Ins) × (List Go.Proofs.Ytcbaokflimdjnaa.Handler)) : Prop := G3 x.1 ∧ G3 x.2.1 ∧ G125 x.2.2.1 ∧ G126 x.2.2.2.1 ∧ G127 x.2.2.2.2
theorem opt129 {H : Type} {enc : TypeId × Value → H} {w : World} {base : Nat} {spare : Nat → Bool} {held : Bool} : Opens enc Try.prog w base spare held 129 (Kd.pair (Kd.int .i64) (Kd.pair (Kd.int .i64) (Kd.pair (Kd.slice 197 Go.Proofs.Ytcbaokflimdjnaa.kCap) (Kd.pair (Kd.slice 199 Go.Proofs.Ytcbaokflimdjnaa.kIns) (Kd.slice 201 Go.Proofs.Ytcbaokflimdjnaa.kHandler))))) Gt129 := opens_struct Try.underlying129 (by kernel_rfl) (fields_cons rfl (by kernel_rfl) op3 (fields_cons rfl (by kernel_rfl) op3 (fields_cons rfl (by kernel_rfl) op125 (fields_cons rfl (by kernel_rfl) op126 (fields_one rfl (by kernel_rfl) op127)))))
def G129 (x : Go.Proofs.Ytcbaokflimdjnaa.Func) : Prop := Gt129 (x.params, x.regs, x.caps, x.code, x.handlers)
theorem op129 {H : Type} {enc : TypeId × Value → H} {w : World} {base : Nat} {spare : Nat → Bool} {held : Bool} : Opens enc Try.prog w base spare held 129 Go.Proofs.Ytcbaokflimdjnaa.kFuncL G129 := opens_iso (fun x : Go.Proofs.Ytcbaokflimdjnaa.Func => (x.params, x.regs, x.caps, x.code, x.handlers)) (fun t => ⟨t.1, t.2.1, t.2.2.1, t.2.2.2.1, t.2.2.2.2⟩) (fun _ => rfl) opt129
def G22 (xs : List Go.Proofs.Ytcbaokflimdjnaa.Func) : Prop := xs.length ≤ maxLen ∧ ∀ x ∈ xs, G129 x
theorem op22 {H : Type} {enc : TypeId × Value → H} {w : World} {base : Nat} {spare : Nat → Bool} {held : Bool} : Opens enc Try.prog w base spare held 22 (Kd.slice 129 Go.Proofs.Ytcbaokflimdjnaa.kFuncL) G22 := opens_slice Try.underlying22 (by kernel_rfl) op129
def G98 (n : Int) : Prop := (Lit.int .u64 n).wf = true
theorem op98 {H : Type} {enc : TypeId × Value → H} {w : World} {base : Nat} {spare : Nat → Bool} {held : Bool} : Opens enc Try.prog w base spare held 98 (Kd.int .u64) G98 := opens_int Try.underlying98
def G9 (s : ByteArray) : Prop := s.size ≤ maxLen
theorem op9 {H : Type} {enc : TypeId × Value → H} {w : World} {base : Nat} {spare : Nat → Bool} {held : Bool} : Opens enc Try.prog w base spare held 9 Kd.string G9 := opens_string Try.underlying9
def Gt131 (x : Int × Int × ByteArray) : Prop := G3 x.1 ∧ G98 x.2.1 ∧ G9 x.2.2
theorem opt131 {H : Type} {enc : TypeId × Value → H} {w : World} {base : Nat} {spare : Nat → Bool} {held : Bool} : Opens enc Try.prog w base spare held 131 (Kd.pair (Kd.int .i64) (Kd.pair (Kd.int .u64) Kd.string)) Gt131 := opens_struct Try.underlying131 (by kernel_rfl) (fields_cons rfl (by kernel_rfl) op3 (fields_cons rfl (by kernel_rfl) op98 (fields_one rfl (by kernel_rfl) op9)))
def G131 (x : Go.Proofs.Ytcbaokflimdjnaa.Const) : Prop := Gt131 (x.kind, x.num, x.text)
theorem op131 {H : Type} {enc : TypeId × Value → H} {w : World} {base : Nat} {spare : Nat → Bool} {held : Bool} : Opens enc Try.prog w base spare held 131 Go.Proofs.Ytcbaokflimdjnaa.kConst G131 := opens_iso (fun x : Go.Proofs.Ytcbaokflimdjnaa.Const => (x.kind, x.num, x.text)) (fun t => ⟨t.1, t.2.1, t.2.2⟩) (fun _ => rfl) opt131
def G23 (xs : List Go.Proofs.Ytcbaokflimdjnaa.Const) : Prop := xs.length ≤ maxLen ∧ ∀ x ∈ xs, G131 x
theorem op23 {H : Type} {enc : TypeId × Value → H} {w : World} {base : Nat} {spare : Nat → Bool} {held : Bool} : Opens enc Try.prog w base spare held 23 (Kd.slice 131 Go.Proofs.Ytcbaokflimdjnaa.kConst) G23 := opens_slice Try.underlying23 (by kernel_rfl) op131
def Gt25 (x : (List Go.Proofs.Ytcbaokflimdjnaa.Func) × (List Go.Proofs.Ytcbaokflimdjnaa.Const)) : Prop := G22 x.1 ∧ G23 x.2
abbrev G25 := Gt25
theorem op25 {H : Type} {enc : TypeId × Value → H} {w : World} {base : Nat} {spare : Nat → Bool} {held : Bool} : Opens enc Try.prog w base spare held 25 (Kd.pair (Kd.slice 129 Go.Proofs.Ytcbaokflimdjnaa.kFuncL) (Kd.slice 131 Go.Proofs.Ytcbaokflimdjnaa.kConst)) G25 := opens_struct Try.underlying25 (by kernel_rfl) (fields_cons rfl (by kernel_rfl) op22 (fields_one rfl (by kernel_rfl) op23))
set_option maxRecDepth 100000 in
theorem lifted (os : Os) (started : os.Started) (H : Type) (enc : TypeId × Value → H) :
    ReturnsInHanded {} Try.checked os 7 .any (Rows.fnExactStatesSpec.pre6 enc Try.prog Try.f7 Rows.fnExactStatesRow.domain false) (Rows.fnExactStatesSpec.post enc Try.prog Try.f7 false true false false) := by
  refine returnsInHanded_of_change_sized (C := Try.checked) own started (by kernel_rfl) Try.func7
    (ChangeSpec.witness6 (enc := enc) (C := Try.checked) false ⟨#[], #[.agg #[.slice none 0 0, .slice none 0 0], .int .i64 0], []⟩ 8 (by kernel_rfl) (by kernel_rfl) (by kernel_rfl) (by kernel_rfl)) ?_
  intro W base args ds gs before hval0 hW hcnd hsz0 _
  have hval : ∀ (j : Nat) t v, Try.f7.params[j]? = some t → args[j]? = some v → Value.okWide Try.prog W .any base t v := hval0
  have hW' := hW
  obtain ⟨p, q, hA0, hV, rfl, hfz, hnd⟩ := hW
  have hA : DataW.TrodAll enc Try.prog W 0 (fun _ => true) true Try.f7.params.toList args.toList ds p := hA0
  rw [Try.params7] at hA hval
  obtain ⟨v0, vs0, d0, ds0, p0, q0, hargs0, rfl, rfl, h0, r0⟩ := trodAll_cons hA
  obtain ⟨v1, vs1, d1, ds1, p1, q1, hargs1, rfl, rfl, h1, r1⟩ := trodAll_cons r0
  obtain ⟨rfl, rfl, rfl⟩ := trodAll_nil r1
  obtain rfl : args = #[v0, v1] := by cases args; simp_all
  obtain ⟨rfl, rfl⟩ := trodVars_none hV
  have k0 := h0
  have lt0 : ∀ x ∈ p0, x.block < W.heap.size := by obtain ⟨m, hm⟩ := k0; exact DataW.trod_lt m _ _ _ hm
  obtain ⟨cs0, rfl, hcz0⟩ := okWide_struct Try.underlying25 (hval 0 25 v0 rfl rfl)
  obtain ⟨x0, hk0, hg0⟩ := opens_arg op25 h0
  obtain ⟨x0_0, x0_1⟩ := x0
  obtain ⟨_, _, e0, ⟨A0_0, c0_0, rfl, hl0_0, hr0_0⟩, ⟨A0_1, c0_1, rfl, hl0_1, hr0_1⟩⟩ := hk0
  obtain rfl : cs0 = #[.slice A0_0 x0_0.length c0_0, .slice A0_1 x0_1.length c0_1] := by obtain ⟨l⟩ := cs0; exact congrArg Array.mk e0
  have k1 := h1
  have lt1 : ∀ x ∈ p1, x.block < W.heap.size := by obtain ⟨m, hm⟩ := k1; exact DataW.trod_lt m _ _ _ hm
  obtain ⟨a1, rfl⟩ := okWide_int Try.underlying3 (hval 1 3 v1 rfl rfl)
  obtain ⟨x1, hk1, hg1⟩ := opens_arg op3 h1
  obtain rfl : x1 = a1 := by have e : [_] = [_] := hk1; injection e with e _; injection e with e1 e2; exact e2.symm
  clear hA0 hval0 hsz0
  refine (LawFnExactStates.law A0_0 c0_0 x0_0 A0_1 c0_1 x0_1 x1 W hr0_0 hl0_0 hr0_1 hl0_1 hg0 hg1).mono fun e W' ⟨he, bel⟩ => ?_
  subst he
  exact ⟨_, rfl, _, _, _, [], _, [], hW', trodAll_mk1 (shut_bool Try.underlying4 _), (trodAll_cons_mk (Below.trod laidOut (by kernel_rfl) (of_decide_eq_true (by kernel_rfl)) k0 bel lt0) (trodAll_cons_mk (Below.trod laidOut (by kernel_rfl) (of_decide_eq_true (by kernel_rfl)) k1 bel lt1) trodAll_mk0)), rfl, bel.frame _, fun h => by cases h⟩
theorem and_true_ {a b : Bool} (ha : a = true) (hb : b = true) : (a && b) = true := by rw [ha, hb]; rfl
theorem closed0 : (Rows.fnExactStatesRow.wf (OpenSpec.ofChange Rows.fnExactStatesSpec)) = true := by kernel_rfl
theorem closed1 : (laidOutB Try.pinned.checked.prog) = true := by kernel_rfl
theorem closed2 : (mapsRowed Try.pinned.checked.prog) = true := by kernel_rfl
theorem closed3 : (Try.f7.params.all (Try.pinned.checked.prog.readableRec ·)) = true := by kernel_rfl
theorem closed4 : (namedTie Try.pinned.checked.prog Rows.fnExactStatesRow.named Rows.fnExactStatesSpec.vars) = true := by kernel_rfl
theorem closed5 : ((Rows.fnExactStatesRow.stops == [])) = true := by kernel_rfl
theorem closed6 : ((Try.pinned.checked.prog.stops == [])) = true := by kernel_rfl
theorem closed7 : ((Rows.fnExactStatesRow.knobs == [])) = true := by kernel_rfl
theorem closed8 : ((Try.pinned.checked.prog.stopKnobs == [])) = true := by kernel_rfl
theorem closed9 : ((Rows.fnExactStatesRow.inPlace == Try.pinned.checked.prog.inPlace 7)) = true := by kernel_rfl
theorem closed10 : ((Rows.fnExactStatesRow.unfollowed == Try.pinned.checked.prog.unfollowed 7)) = true := by kernel_rfl
theorem closed11 : ((Rows.fnExactStatesRow.recurses == Try.pinned.checked.prog.recurses 7)) = true := by kernel_rfl
theorem closed12 : ((Rows.fnExactStatesRow.named == Try.pinned.checked.prog.varsNamed 7)) = true := by kernel_rfl
theorem closed13 : ((Rows.fnExactStatesRow.maps == ((Try.f7.params.toList ++ Rows.fnExactStatesSpec.plain.varTypes Try.pinned.checked.prog)).any (Try.pinned.checked.prog.mapsRec ·))) = true := by kernel_rfl
theorem closed14 : ((Rows.fnExactStatesRow.ifaces == ((Try.f7.params.toList ++ Rows.fnExactStatesSpec.plain.varTypes Try.pinned.checked.prog)).any (Try.pinned.checked.prog.ifacesRec ·))) = true := by kernel_rfl
theorem closed15 : ((Rows.fnExactStatesRow.mapsOut == Try.pinned.checked.prog.mapsAmong Try.f7.resultTypes.toList)) = true := by kernel_rfl
theorem closed16 : ((Rows.fnExactStatesRow.loops == ((Try.f7.params.toList ++ Rows.fnExactStatesSpec.plain.varTypes Try.pinned.checked.prog)).any (Try.pinned.checked.prog.loopsFrom ·))) = true := by kernel_rfl
theorem closed17 : ((Rows.fnExactStatesRow.wideKeys == (Try.f7.params.toList ++ Rows.fnExactStatesSpec.plain.varTypes Try.pinned.checked.prog ++ Try.f7.resultTypes.toList).any (Try.pinned.checked.prog.wideKeysFrom ·))) = true := by kernel_rfl
theorem closed18 : (Rows.fnExactStatesSpec.vars.all (Try.pinned.checked.prog.varReadable ·)) = true := by kernel_rfl
theorem closed19 : (Try.f7.resultTypes.all (fun t => Try.pinned.checked.prog.readableRec t && decide (t < Try.pinned.checked.prog.types.size))) = true := by kernel_rfl
theorem closed20 : ((Rows.fnExactStatesRow.ifacesOut == Try.f7.resultTypes.toList.any (Try.pinned.checked.prog.ifacesRec ·))) = true := by kernel_rfl
theorem closed21 : ((Rows.fnExactStatesRow.loopsOut == Try.f7.resultTypes.toList.any (Try.pinned.checked.prog.loopsFrom ·))) = true := by kernel_rfl
theorem closed22 : ((Rows.fnExactStatesRow.plainKeys == Try.pinned.checked.prog.plainKeys)) = true := by kernel_rfl
theorem closed23 : (Rows.fnExactStatesRow.shortTexts.isNone) = true := by kernel_rfl
theorem closed24 : (Try.pinned.checked.prog.stopsHeard) = true := by kernel_rfl
theorem closed25 : (Try.pinned.checked.prog.mayEnter) = true := by kernel_rfl
theorem closed26 : ((Rows.fnExactStatesRow.lifted == Try.pinned.checked.prog.liftsFinal)) = true := by kernel_rfl
theorem closed27 : ((Try.pinned.checked.prog.make == some Rows.fnExactStatesRow.make)) = true := by kernel_rfl
theorem closed28 : ((Rows.fnExactStatesRow.kinds == (if Rows.fnExactStatesRow.domain.isEmpty then [] else Try.f7.params.toList.map fun t => match Try.pinned.checked.prog.underlying t with | some (.int k) => some k | _ => none))) = true := by kernel_rfl
theorem closed29 : ((Rows.fnExactStatesRow.pinned == Rows.fnExactStatesRow.pinnedBy)) = true := by kernel_rfl
theorem closed30 : ((Rows.fnExactStatesRow.veiled == (Try.f7.params.toList ++ Rows.fnExactStatesSpec.plain.varTypes Try.pinned.checked.prog ++ Try.f7.resultTypes.toList).any (Try.pinned.checked.prog.veiledRec ·))) = true := by kernel_rfl
theorem closed31 : (Rows.fnExactStatesRow.veiledFits Try.pinned.checked.prog Try.f7.params.toList (Try.f7.params.toList ++ Rows.fnExactStatesSpec.plain.varTypes Try.pinned.checked.prog ++ Try.f7.resultTypes.toList)) = true := by kernel_rfl
set_option maxRecDepth 100000 in
theorem closed : joinedFacts Try.pinned.checked.prog 7 Try.f7 Rows.fnExactStatesSpec Rows.fnExactStatesRow = true := by
  show (Rows.fnExactStatesRow.wf (OpenSpec.ofChange Rows.fnExactStatesSpec) && laidOutB Try.pinned.checked.prog && mapsRowed Try.pinned.checked.prog && Try.f7.params.all (Try.pinned.checked.prog.readableRec ·) && namedTie Try.pinned.checked.prog Rows.fnExactStatesRow.named Rows.fnExactStatesSpec.vars && (Rows.fnExactStatesRow.stops == []) && (Try.pinned.checked.prog.stops == []) && (Rows.fnExactStatesRow.knobs == []) && (Try.pinned.checked.prog.stopKnobs == []) && (Rows.fnExactStatesRow.inPlace == Try.pinned.checked.prog.inPlace 7) && (Rows.fnExactStatesRow.unfollowed == Try.pinned.checked.prog.unfollowed 7) && (Rows.fnExactStatesRow.recurses == Try.pinned.checked.prog.recurses 7) && (Rows.fnExactStatesRow.named == Try.pinned.checked.prog.varsNamed 7) && (Rows.fnExactStatesRow.maps == ((Try.f7.params.toList ++ Rows.fnExactStatesSpec.plain.varTypes Try.pinned.checked.prog)).any (Try.pinned.checked.prog.mapsRec ·)) && (Rows.fnExactStatesRow.ifaces == ((Try.f7.params.toList ++ Rows.fnExactStatesSpec.plain.varTypes Try.pinned.checked.prog)).any (Try.pinned.checked.prog.ifacesRec ·)) && (Rows.fnExactStatesRow.mapsOut == Try.pinned.checked.prog.mapsAmong Try.f7.resultTypes.toList) && (Rows.fnExactStatesRow.loops == ((Try.f7.params.toList ++ Rows.fnExactStatesSpec.plain.varTypes Try.pinned.checked.prog)).any (Try.pinned.checked.prog.loopsFrom ·)) && (Rows.fnExactStatesRow.wideKeys == (Try.f7.params.toList ++ Rows.fnExactStatesSpec.plain.varTypes Try.pinned.checked.prog ++ Try.f7.resultTypes.toList).any (Try.pinned.checked.prog.wideKeysFrom ·)) && Rows.fnExactStatesSpec.vars.all (Try.pinned.checked.prog.varReadable ·) && Try.f7.resultTypes.all (fun t => Try.pinned.checked.prog.readableRec t && decide (t < Try.pinned.checked.prog.types.size)) && (Rows.fnExactStatesRow.ifacesOut == Try.f7.resultTypes.toList.any (Try.pinned.checked.prog.ifacesRec ·)) && (Rows.fnExactStatesRow.loopsOut == Try.f7.resultTypes.toList.any (Try.pinned.checked.prog.loopsFrom ·)) && (Rows.fnExactStatesRow.plainKeys == Try.pinned.checked.prog.plainKeys) && Rows.fnExactStatesRow.shortTexts.isNone && Try.pinned.checked.prog.stopsHeard && Try.pinned.checked.prog.mayEnter && (Rows.fnExactStatesRow.lifted == Try.pinned.checked.prog.liftsFinal) && (Try.pinned.checked.prog.make == some Rows.fnExactStatesRow.make) && (Rows.fnExactStatesRow.kinds == (if Rows.fnExactStatesRow.domain.isEmpty then [] else Try.f7.params.toList.map fun t => match Try.pinned.checked.prog.underlying t with | some (.int k) => some k | _ => none)) && (Rows.fnExactStatesRow.pinned == Rows.fnExactStatesRow.pinnedBy) && (Rows.fnExactStatesRow.veiled == (Try.f7.params.toList ++ Rows.fnExactStatesSpec.plain.varTypes Try.pinned.checked.prog ++ Try.f7.resultTypes.toList).any (Try.pinned.checked.prog.veiledRec ·)) && Rows.fnExactStatesRow.veiledFits Try.pinned.checked.prog Try.f7.params.toList (Try.f7.params.toList ++ Rows.fnExactStatesSpec.plain.varTypes Try.pinned.checked.prog ++ Try.f7.resultTypes.toList)) = true
  exact (and_true_ (and_true_ (and_true_ (and_true_ (and_true_ (and_true_ (and_true_ (and_true_ (and_true_ (and_true_ (and_true_ (and_true_ (and_true_ (and_true_ (and_true_ (and_true_ (and_true_ (and_true_ (and_true_ (and_true_ (and_true_ (and_true_ (and_true_ (and_true_ (and_true_ (and_true_ (and_true_ (and_true_ (and_true_ (and_true_ (and_true_ closed0 closed1) closed2) closed3) closed4) closed5) closed6) closed7) closed8) closed9) closed10) closed11) closed12) closed13) closed14) closed15) closed16) closed17) closed18) closed19) closed20) closed21) closed22) closed23) closed24) closed25) closed26) closed27) closed28) closed29) closed30) closed31)
theorem named : Try.pinned.checked.prog.funcNamed Rows.fnExactStatesRow.func = some 7 := by kernel_rfl
theorem over : Rows.fnExactStatesRow.holds Try.pinned (OpenSpec.ofChange Rows.fnExactStatesSpec) :=
  OpenClaim.holds_of_wide 7 Try.f7 rfl rfl rfl rfl rfl rfl rfl ⟨rfl, rfl, rfl, rfl, rfl⟩ rfl rfl rfl rfl rfl named Try.func7 closed
    (of_decide_eq_true (by kernel_rfl)) (by unfold Func.isWrapper; first | (rw [if_pos (by decide +kernel)]; kernel_rfl) | (rw [if_neg (by decide +kernel)]; exact ⟨rfl, rfl⟩))
    (fun os started H enc _ => lifted os started H enc)
theorem proved : Rows.FnExactStatesSaid := over
#print axioms proved
end Go.Proofs.Ytcbaokflimdjnaa.fnExactStates
namespace Go.Proofs.Ytcbaokflimdjnaa
/-- The row, under a short name, for the claim. -/
theorem fnExactStates_holds : Rows.FnExactStatesSaid := fnExactStates.proved
end Go.Proofs.Ytcbaokflimdjnaa
end
