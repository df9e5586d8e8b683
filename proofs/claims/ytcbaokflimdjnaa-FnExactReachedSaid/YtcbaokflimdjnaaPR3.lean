/- Part 3 of the proof: general lemmas, contracts of functions, walks. No condition of its own. -/
import Derived.Test.YtcbaokflimdjnaaProg
import Derived.Deep.RegionWith
import Derived.Deep.RegionHeld3
import Derived.Deep.DeepCutAuto
import Derived.Test.YtcbaokflimdjnaaPV11
import Derived.Test.YtcbaokflimdjnaaPV1
import Derived.Test.YtcbaokflimdjnaaPR1
import Derived.Test.YtcbaokflimdjnaaPV10
import Derived.Test.YtcbaokflimdjnaaPV3
import Derived.Test.YtcbaokflimdjnaaPR2
import Derived.Test.YtcbaokflimdjnaaPV4
import Derived.Test.YtcbaokflimdjnaaPV5
import Derived.Test.YtcbaokflimdjnaaPV6
import Derived.Test.YtcbaokflimdjnaaPV7
import Derived.Test.YtcbaokflimdjnaaPV9
import Derived.Test.YtcbaokflimdjnaaPV8
import Derived.Test.YtcbaokflimdjnaaPV24
import Derived.Test.YtcbaokflimdjnaaPV21
import Derived.Test.YtcbaokflimdjnaaPV17
import Derived.Test.YtcbaokflimdjnaaPV2
import Derived.Test.YtcbaokflimdjnaaPV12
import Derived.Test.YtcbaokflimdjnaaPV13
import Derived.Test.YtcbaokflimdjnaaPV14
import Derived.Test.YtcbaokflimdjnaaPV15
import Derived.Test.YtcbaokflimdjnaaPV16
import Derived.Test.YtcbaokflimdjnaaPV18
import Derived.Test.YtcbaokflimdjnaaPV20
import Derived.Test.YtcbaokflimdjnaaPV19
import Derived.Test.YtcbaokflimdjnaaPV23
import Derived.Test.YtcbaokflimdjnaaPV22
import Derived.Test.YtcbaokflimdjnaaPV27
import Derived.Test.YtcbaokflimdjnaaPV26
import Derived.Test.YtcbaokflimdjnaaPV25
import Derived.Test.YtcbaokflimdjnaaPV28
section
namespace Go.Proofs.Ytcbaokflimdjnaa
open Go.RowKit Go.Proofs.YtcbaokflimdjnaaW.PrintWords Go.Proofs.YtcbaokflimdjnaaW.PrintMore
set_option linter.unusedVariables false
theorem StateI_at {w : World} {A : Option Addr} {l : List State} (h : kStateI.C w A l.length l) (j : Nat) (hj : j < l.length) : ∃ a A1 c1, A = some a ∧ kStateI.K w (el zState l j) [.int .i64 (el zState l j).acc, .slice A1 (el zState l j).regs.length c1] ∧ w.cell? (a.add (j * 2)) = some (.int .i64 (el zState l j).acc) ∧ w.cell? ⟨(a.add (j * 2)).block, (a.add (j * 2)).off + 1, none⟩ = some (.slice A1 (el zState l j).regs.length c1) := by
  obtain ⟨a, c, e, hK, hc0⟩ := kd_at zState h j hj
  have hc : ∀ i u, c[i]? = some u → w.cell? (a.add (j * 2 + i)) = some u := hc0
  obtain ⟨A1, c1, rfl, l1, g1⟩ := kStateI_open hK
  exact ⟨a, A1, c1, e, hK, hc 0 _ rfl, by rw [← add_field _ _ 1 (by omega)]; exact hc 1 _ rfl⟩
end Go.Proofs.Ytcbaokflimdjnaa
end
section
namespace Go.Proofs.Ytcbaokflimdjnaa.Flow
open Go.RowKit Go.Proofs.YtcbaokflimdjnaaW.PrintWords Go.Proofs.YtcbaokflimdjnaaW.PrintLast Go.Proofs.Ytcbaokflimdjnaa.Steps Go.Proofs.YtcbaokflimdjnaaW.PrintMore Go.Proofs.Ytcbaokflimdjnaa.Law Go.Proofs.Ytcbaokflimdjnaa Go.Proofs.Ytcbaokflimdjnaa.QFnExactVerify Go.Proofs.Ytcbaokflimdjnaa.Num Go.Proofs.Ytcbaokflimdjnaa.PureJoin
set_option linter.unusedVariables false
set_option linter.unusedSimpArgs false
set_option autoImplicit false
def okFn (x : Image) (fn : Int) : Bool := imgB x && Img.inB fn 0 ((x.funcs.length : Int) - 1)
def flowOf (x : Image) (fn : Int) : Fl := final x (el zFunc x.funcs fn.toNat)
def stOk (x : Image) (fn : Int) : Bool := okFn x fn && !(flowOf x fn).bad
def stList (x : Image) (fn : Int) : List State := if stOk x fn = true then (flowOf x fn).list else []
def stReached (x : Image) (fn : Int) : List Bool := if stOk x fn = true then (flowOf x fn).reached else []
/-- No state has more registers than R. -/
def Small (R : Nat) (r : Fl) : Prop := ∀ y ∈ r.list, y.regs.length ≤ R
theorem Small.at {R : Nat} {r : Fl} (h : Small R r) (p : Nat) : (el zState r.list p).regs.length ≤ R := by
  by_cases hp : p < r.list.length
  · exact h _ (el_mem zState hp)
  · have : el zState r.list p = zState := by unfold el; rw [List.getD_eq_getElem?_getD, List.getElem?_eq_none (by omega)]; rfl
    rw [this]; exact Nat.zero_le _
theorem Small.set {R : Nat} {l : List State} (h : ∀ y ∈ l, y.regs.length ≤ R) (p : Nat) {s : State} (hs : s.regs.length ≤ R) : ∀ y ∈ l.set p s, y.regs.length ≤ R := fun y hy => by
  rcases List.mem_or_eq_of_mem_set hy with hy | rfl
  · exact h y hy
  · exact hs
theorem come_small {R : Nat} {r : Fl} {p : Nat} {s : State} (h : Small R r) (hs : s.regs.length ≤ R) : Small R (come r p s) := by
  unfold come
  split
  · exact h
  · split
    · split
      · exact h
      · refine Small.set h p ?_
        show (joined _ _).length ≤ R
        have := h.at p
        rw [joined_length]
        omega
    · exact Small.set h p hs
theorem hands_small {R : Nat} {r : Fl} {hs : List Handler} {p : Int} {s : State} (h : Small R r) (hl : s.regs.length ≤ R) : ∀ j, Small R (handsTo hs p s r j)
  | 0 => h
  | j + 1 => by
    unfold handsTo
    split
    · exact come_small (hands_small h hl j) hl
    · exact hands_small h hl j
theorem step_small {R : Nat} {r : Fl} {x : Image} {f : Func} (h : Small R r) : Small R (step x f r) := by
  have hs : (el zState r.list (el 0 r.queue r.k).toNat).regs.length ≤ R := h.at _
  have h1 : Small R (handsTo f.handlers ((el 0 r.queue r.k).toNat : Int) (el zState r.list (el 0 r.queue r.k).toNat) { r with k := r.k + 1 } f.handlers.length) := hands_small (r := { r with k := r.k + 1 }) h hs _
  have ha : (afterS (el zIns f.code (el 0 r.queue r.k).toNat) (el zState r.list (el 0 r.queue r.k).toNat)).regs.length ≤ R := by rw [after_len]; exact hs
  unfold step
  simp only
  split
  · unfold next jump
    split <;> split <;> first | exact h1 | exact come_small h1 ha | exact come_small (come_small h1 ha) ha
  · exact h1
theorem it_small {R : Nat} {r : Fl} {x : Image} {f : Func} (h : Small R r) : ∀ j, Small R (it x f r j)
  | 0 => h
  | j + 1 => by
    unfold it
    split
    · exact it_small h j
    · exact step_small (it_small h j)
theorem final_small {x : Image} {f : Func} (h : f.params ≤ f.regs) (h0 : 0 ≤ f.params) : Small f.regs.toNat (final x f) := by
  refine it_small (come_small (fun y hy => ?_) ?_) _
  · rw [List.eq_of_mem_replicate hy]; exact Nat.zero_le _
  · rw [begin_len h h0]; exact Nat.le_refl _
theorem final_len {x : Image} {f : Func} (h : f.params ≤ f.regs) (h0 : 0 ≤ f.params) : (final x f).list.length = f.code.length ∧ (final x f).reached.length = f.code.length := ⟨(it_inv (start_inv h h0) _).ll, (it_inv (start_inv h h0) _).lr⟩
theorem st_no {x : Image} {fn : Int} (h : okFn x fn = false) : stOk x fn = false ∧ stList x fn = [] ∧ stReached x fn = [] := by
  have e : stOk x fn = false := by unfold stOk; rw [h]; rfl
  exact ⟨e, by unfold stList; rw [if_neg (by rw [e]; decide)], by unfold stReached; rw [if_neg (by rw [e]; decide)]⟩
theorem st_bad {x : Image} {fn : Int} (h : (flowOf x fn).bad = true) : stOk x fn = false ∧ stList x fn = [] ∧ stReached x fn = [] := by
  have e : stOk x fn = false := by unfold stOk; rw [h]; simp
  exact ⟨e, by unfold stList; rw [if_neg (by rw [e]; decide)], by unfold stReached; rw [if_neg (by rw [e]; decide)]⟩
theorem st_yes {x : Image} {fn : Int} (h : okFn x fn = true) (hb : (flowOf x fn).bad = false) : stOk x fn = true ∧ stList x fn = (flowOf x fn).list ∧ stReached x fn = (flowOf x fn).reached := by
  have e : stOk x fn = true := by unfold stOk; rw [h, hb]; rfl
  exact ⟨e, by unfold stList; rw [if_pos e], by unfold stReached; rw [if_pos e]⟩
theorem take_el (l : List State) (j : Nat) (h : j < l.length) : l.take (j + 1) = l.take j ++ [el zState l j] := by rw [List.take_add_one, List.getElem?_eq_getElem h, el_lt zState h]; rfl
def imgS.T10 : Bool × List (List Nat × List Nat) := (true, [([], []), ([], []), ([1], [1]), ([2], [2]), ([3], [3]), ([], []), ([4, 5], [4, 5]), ([6], [6]), ([7], [7]), ([], []), ([], []), ([10], [10]), ([11], [11]), ([12], [12]), ([], []), ([13, 14], [13, 14]), ([15], [15]), ([16], [16]), ([9, 17], [9, 17]), ([8, 18], [8, 18]), ([19], [19]), ([0, 20, 18], [0, 20]), ([21, 21, 0, 1, 2, 3, 4, 5, 6, 7, 8, 9, 10, 11, 12, 13, 14, 15, 16, 17, 18, 19, 20, 21], [0, 21])])
def imgS.B10 : List Nat := [0, 0, 2, 6, 14, 0, 62, 126, 254, 0, 0, 1024, 3072, 7168, 0, 31744, 64512, 130048, 261632, 524286, 1048574, 2097151, 4194303]
theorem imgS.tab10 : rtab .any (opsOf Try.f29 10) = imgS.T10 := by kernel_rfl
theorem imgS.bits10 : waitsOk imgS.T10.2 imgS.B10 = true := by kernel_rfl
def imgS.T11 : Bool × List (List Nat × List Nat) := (true, [([], []), ([], []), ([1], [1]), ([2], [2]), ([3], [3]), ([0, 0], [0]), ([4, 5, 0, 1, 2, 3, 4, 5], [4]), ([6, 0, 1, 2, 3, 4, 5, 6], [])])
def imgS.B11 : List Nat := [0, 0, 2, 6, 14, 1, 63, 127]
theorem imgS.tab11 : rtab .any (opsOf Try.f29 11) = imgS.T11 := by kernel_rfl
theorem imgS.bits11 : waitsOk imgS.T11.2 imgS.B11 = true := by kernel_rfl
set_option maxHeartbeats 8000000 in
set_option maxRecDepth 100000 in
theorem cImStates (x : Image) (fn : Int) (A0 : Option Addr) (c0 : Nat) (A1 : Option Addr) (c1 : Nat) (w : World) (l0 : x.funcs.length ≤ c0) (g0 : kFuncI.C w A0 x.funcs.length x.funcs) (l1 : x.consts.length ≤ c1) (g1 : kConst.C w A1 x.consts.length x.consts) (hn : ∀ y ∈ x.consts, 0 ≤ y.num ∧ y.num < 18446744073709551616) :
    Calls Try.prog 30 #[.agg #[.slice A0 x.funcs.length c0, .slice A1 x.consts.length c1], .int .i64 fn] w fun e w' => ∃ v1 v2, e = .returned (.tuple #[v1, v2, .bool (stOk x fn)]) ∧ kStateI.R 31 w' w.heap.size (fun _ => True) v1 (stList x fn) ∧ Kd.bool.R 4 w' w.heap.size (fun _ => True) v2 (stReached x fn) ∧ Below w.heap.size w w' := by
  have hu := Try.underlying37; have hu1 := Try.underlying34; have hu2 := Try.underlying31; have hu3 := Try.underlying48; have hu4 := Try.underlying26; have hu5 := Try.underlying49; have hu6 := Try.underlying89
  have G0 := Aside0.mk g0; have G1 := Aside0.mk g1; have HN := Aside0.mk hn; have L0 := Aside0.mk l0; have L1 := Aside0.mk l1
  have hlen : x.funcs.length ≤ 9223372036854775807 := g0.2.1
  clear g0 g1 hn l0 l1
  have M0 := Aside0.mk ((Mem.start w).allocAt rfl #[.slice A0 x.funcs.length c0, .slice A1 x.consts.length c1] 37)
  have z := M0.out.box (.head _)
  have i4 : IntKind.i64.wrap ((x.funcs.length : Int) - 1) = (x.funcs.length : Int) - 1 := IntWalk.i64_in _ (by omega)
  have i5 : wrap64 ((x.funcs.length : Int) - 1) = (x.funcs.length : Int) - 1 := by unfold wrap64; omega
  go_enter Try.func30, Try.ntmps30
  go_wp2_with fail
  refine (cImageOkI x A0 c0 A1 c1 _ L0.out (Kd.C_below G0.out M0.out.below) L1.out (Kd.C_below G1.out M0.out.below) HN.out).mono ?_
  rintro e w1 ⟨rfl, hb⟩
  have M1 := Aside0.mk (M0.out.step hb); clear hb M0 z
  have z := M1.out.box (.head _)
  rcases Bool.eq_false_or_eq_true (imgB x) with hi | hi
  rotate_left
  · rw [hi]
    have HR := Aside0.mk (st_no (show okFn x fn = false by unfold okFn; rw [hi]; rfl))
    clear hi
    go_wp2
    go_ret3
    exact ⟨.slice none 0 0, .slice none 0 0, by rw [HR.out.1]; rfl, by rw [HR.out.2.1]; exact Kd.R_nil _ _ _ _ _, by rw [HR.out.2.2]; exact Kd.R_nil _ _ _ _ _, M1.out.below⟩
  rw [hi]
  have HI := Aside0.mk hi; clear hi
  go_wp2_with fail
  refine (impl_within.calls _ _ _ _ _ (Img.impl_in fn 0 ((x.funcs.length : Int) - 1))).mono ?_; rintro e w2 ⟨rfl, ⟨⟨n1, rfl⟩⟩⟩
  have M2 := Aside0.mk (M1.out.draw n1); clear M1 z
  have z := M2.out.box (.head _)
  rcases Bool.eq_false_or_eq_true (Img.inB fn 0 ((x.funcs.length : Int) - 1)) with hf | hf
  rotate_left
  · rw [hf]
    have HR := Aside0.mk (st_no (show okFn x fn = false by unfold okFn; rw [hf]; simp))
    clear hf
    go_wp2
    go_ret3
    exact ⟨.slice none 0 0, .slice none 0 0, by rw [HR.out.1]; rfl, by rw [HR.out.2.1]; exact Kd.R_nil _ _ _ _ _, by rw [HR.out.2.2]; exact Kd.R_nil _ _ _ _ _, M2.out.below⟩
  rw [hf]
  have HOK := Aside0.mk (show okFn x fn = true by unfold okFn; rw [HI.out, hf]; rfl)
  have hfr := of_decide_eq_true hf
  obtain ⟨jf, rfl⟩ : ∃ jf : Nat, fn = jf := ⟨fn.toNat, by omega⟩
  have hjf : jf < x.funcs.length := by omega
  clear hf hfr
  obtain ⟨fa, A2, c2, A3, c3, A4, c4, hfa, _⟩ := func_at5 G0.out jf hjf
  subst hfa
  go_wp2_with fail
  refine (cStates x jf (fn_ok HI.out (el_mem zFunc hjf)) hjf w.heap.size fa c0 A1 c1 _ ((M2.out.box (.head _) 0).trans rfl) ((M2.out.box (.head _) 1).trans rfl) (Kd.C_below G0.out M2.out.below)).mono ?_
  rintro e w3 ⟨v1, v2, rfl, hbd, hgd, hb3⟩
  have M3 := Aside0.mk (M2.out.step hb3)
  have hsz := M2.out.below.size
  clear z hb3
  rcases Bool.eq_false_or_eq_true (flowOf x jf).bad with hb | hb
  · have HR := Aside0.mk (st_bad hb)
    obtain ⟨rfl, rfl⟩ := hbd hb
    clear hbd hgd
    rw [show (final x (el zFunc x.funcs jf)).bad = true from hb]
    go_wp2
    go_ret3
    exact ⟨.slice none 0 0, .slice none 0 0, by rw [HR.out.1]; rfl, by rw [HR.out.2.1]; exact Kd.R_nil _ _ _ _ _, by rw [HR.out.2.2]; exact Kd.R_nil _ _ _ _ _, M3.out.below⟩
  · have HR := Aside0.mk (st_yes HOK.out hb)
    have HG := Aside0.mk (hgd hb)
    clear hbd hgd
    rw [show (final x (el zFunc x.funcs jf)).bad = false from hb]
    go_wp2
    go_ret3
    exact ⟨v1, v2, by rw [HR.out.1]; rfl, by rw [HR.out.2.1]; exact Kd.R_lower HG.out.1 hsz, by rw [HR.out.2.2]; exact Kd.R_lower HG.out.2 hsz, M3.out.below⟩
set_option maxHeartbeats 8000000 in
set_option maxRecDepth 100000 in
theorem cSpStates (x : Image) (fn : Int) (A0 : Option Addr) (c0 : Nat) (A1 : Option Addr) (c1 : Nat) (w : World) (l0 : x.funcs.length ≤ c0) (g0 : kFuncI.C w A0 x.funcs.length x.funcs) (l1 : x.consts.length ≤ c1) (g1 : kConst.C w A1 x.consts.length x.consts) (hn : ∀ y ∈ x.consts, 0 ≤ y.num ∧ y.num < 18446744073709551616) :
    Calls Try.prog 29 #[.agg #[.slice A0 x.funcs.length c0, .slice A1 x.consts.length c1], .int .i64 fn] w fun e w' => ∃ v1 v2, e = .returned (.tuple #[v1, v2, .bool (stOk x fn)]) ∧ kStateI.R 31 w' w.heap.size (fun _ => True) v1 (stList x fn) ∧ Kd.bool.R 4 w' w.heap.size (fun _ => True) v2 (stReached x fn) ∧ Below w.heap.size w w' := by
  have hu := Try.underlying37; have hu1 := Try.underlying34; have hu2 := Try.underlying31; have hu3 := Try.underlying48; have hu4 := Try.underlying26; have hu5 := Try.underlying49; have hu6 := Try.underlying89
  have G0 := Aside0.mk g0; have G1 := Aside0.mk g1; have HN := Aside0.mk hn; have L0 := Aside0.mk l0; have L1 := Aside0.mk l1
  have hlen : x.funcs.length ≤ 9223372036854775807 := g0.2.1
  clear g0 g1 hn l0 l1
  have M0 := Aside0.mk ((Mem.start w).allocAt rfl #[.slice A0 x.funcs.length c0, .slice A1 x.consts.length c1] 37)
  have z := M0.out.box (.head _)
  have i4 : IntKind.i64.wrap ((x.funcs.length : Int) - 1) = (x.funcs.length : Int) - 1 := IntWalk.i64_in _ (by omega)
  have i5 : wrap64 ((x.funcs.length : Int) - 1) = (x.funcs.length : Int) - 1 := by unfold wrap64; omega
  go_enter Try.func29, Try.ntmps29
  go_wp2_with fail
  refine (cImageOkS x A0 c0 A1 c1 _ L0.out (Kd.C_below G0.out M0.out.below) L1.out (Kd.C_below G1.out M0.out.below) HN.out).mono ?_
  rintro e w1 ⟨rfl, hb⟩
  have M1 := Aside0.mk (M0.out.step hb); clear hb M0 z
  have z := M1.out.box (.head _)
  rcases Bool.eq_false_or_eq_true (imgB x) with hi | hi
  rotate_left
  · rw [hi]
    have HR := Aside0.mk (st_no (show okFn x fn = false by unfold okFn; rw [hi]; rfl))
    clear hi
    go_wp2_with (first | ((with_reducible refine gate_dst (N := 22) rfl ?_); refine Kd.R_lit kStateI _ 31 ?hg (N := 22) ?hd (xs := ([] : List State)) (inner := []) (ok := fun _ => True) (okp := fun _ => True) ?hr ?hp (fun _ hk => hk) trivial (Below.refl _ _) (Nat.le_refl _) (by simp) ?_; (case hd => rfl); (case hg => rfl); (case hr => first | (go_simp; done) | (go_simp; rfl)); (case hp => exact (Reps.none _ _)); intro v8 wv8 ho hb hg_ hnew_; clear hg_ hnew_; have HOv8 := Aside0.mk ho; have HBv8 := Aside0.mk hb; clear ho hb) | ((with_reducible refine gate_dst (N := 23) rfl ?_); refine Kd.R_lit Kd.bool _ 4 ?hg (N := 23) ?hd (xs := ([] : List Bool)) (inner := []) (ok := fun _ => True) (okp := fun _ => True) ?hr ?hp (fun _ hk => hk) trivial (Below.refl _ _) (Nat.le_refl _) (by simp) ?_; (case hd => rfl); (case hg => rfl); (case hr => first | (go_simp; done) | (go_simp; rfl)); (case hp => exact (Reps.none _ _)); intro v9 wv9 ho hb hg_ hnew_; clear hg_ hnew_; have HOv9 := Aside0.mk ho; have HBv9 := Aside0.mk hb; clear ho hb))
    go_ret3
    have hb8 := below_step M1.out.below HBv8.out
    exact ⟨v8, v9, by rw [HR.out.1]; rfl, by rw [HR.out.2.1]; exact Kd.R_lower (Kd.R_below HOv8.out HBv9.out) M1.out.below.size, by rw [HR.out.2.2]; exact Kd.R_lower HOv9.out hb8.size, below_step hb8 HBv9.out⟩
  rw [hi]
  have HI := Aside0.mk hi; clear hi
  go_wp2_with fail
  refine (spec_l01In.calls _ _ _ _ _ (Img.spec_in fn 0 ((x.funcs.length : Int) - 1))).mono ?_; rintro e w2 ⟨rfl, ⟨⟨n1, rfl⟩⟩⟩
  have M2 := Aside0.mk (M1.out.draw n1); clear M1 z
  have z := M2.out.box (.head _)
  rcases Bool.eq_false_or_eq_true (Img.inB fn 0 ((x.funcs.length : Int) - 1)) with hf | hf
  rotate_left
  · rw [hf]
    have HR := Aside0.mk (st_no (show okFn x fn = false by unfold okFn; rw [hf]; simp))
    clear hf
    go_wp2_with (first | ((with_reducible refine gate_dst (N := 22) rfl ?_); refine Kd.R_lit kStateI _ 31 ?hg (N := 22) ?hd (xs := ([] : List State)) (inner := []) (ok := fun _ => True) (okp := fun _ => True) ?hr ?hp (fun _ hk => hk) trivial (Below.refl _ _) (Nat.le_refl _) (by simp) ?_; (case hd => rfl); (case hg => rfl); (case hr => first | (go_simp; done) | (go_simp; rfl)); (case hp => exact (Reps.none _ _)); intro v8 wv8 ho hb hg_ hnew_; clear hg_ hnew_; have HOv8 := Aside0.mk ho; have HBv8 := Aside0.mk hb; clear ho hb) | ((with_reducible refine gate_dst (N := 23) rfl ?_); refine Kd.R_lit Kd.bool _ 4 ?hg (N := 23) ?hd (xs := ([] : List Bool)) (inner := []) (ok := fun _ => True) (okp := fun _ => True) ?hr ?hp (fun _ hk => hk) trivial (Below.refl _ _) (Nat.le_refl _) (by simp) ?_; (case hd => rfl); (case hg => rfl); (case hr => first | (go_simp; done) | (go_simp; rfl)); (case hp => exact (Reps.none _ _)); intro v9 wv9 ho hb hg_ hnew_; clear hg_ hnew_; have HOv9 := Aside0.mk ho; have HBv9 := Aside0.mk hb; clear ho hb))
    go_ret3
    have hb8 := below_step M2.out.below HBv8.out
    exact ⟨v8, v9, by rw [HR.out.1]; rfl, by rw [HR.out.2.1]; exact Kd.R_lower (Kd.R_below HOv8.out HBv9.out) M2.out.below.size, by rw [HR.out.2.2]; exact Kd.R_lower HOv9.out hb8.size, below_step hb8 HBv9.out⟩
  rw [hf]
  have HOK := Aside0.mk (show okFn x fn = true by unfold okFn; rw [HI.out, hf]; rfl)
  have hfr := of_decide_eq_true hf
  obtain ⟨jf, rfl⟩ : ∃ jf : Nat, fn = jf := ⟨fn.toNat, by omega⟩
  have hjf : jf < x.funcs.length := by omega
  clear hf hfr
  go_wp2_with fail
  refine (cStatesS x jf (fn_ok HI.out (el_mem zFunc hjf)) hjf A0 c0 A1 c1 _ L0.out (Kd.C_below G0.out M2.out.below)).mono ?_
  rintro e w4 ⟨g, lo, vl, vr, vt, r, rfl, hR, hbd, hgd⟩
  have RR := Aside0.mk hR
  have M3 := Aside0.mk (M2.out.step hR.below); have hs2 := M2.out.below.size; clear hR z M2
  have q3 := (blk_cell RR.out.box 3).trans rfl
  rcases Bool.eq_false_or_eq_true r.bad with hb | hb
  · have HR := Aside0.mk (st_bad (show (flowOf x jf).bad = true from hbd ▸ hb))
    rw [hb] at q3
    clear hb hbd hgd
    go_wp2_with (first | ((with_reducible refine gate_dst (N := 31) rfl ?_); refine Kd.R_lit kStateI _ 31 ?hg (N := 31) ?hd (xs := ([] : List State)) (inner := []) (ok := fun _ => True) (okp := fun _ => True) ?hr ?hp (fun _ hk => hk) trivial (Below.refl _ _) (Nat.le_refl _) (by simp) ?_; (case hd => rfl); (case hg => rfl); (case hr => first | (go_simp; done) | (go_simp; rfl)); (case hp => exact (Reps.none _ _)); intro v8 wv8 ho hb hg_ hnew_; clear hg_ hnew_; have HOv8 := Aside0.mk ho; have HBv8 := Aside0.mk hb; clear ho hb) | ((with_reducible refine gate_dst (N := 32) rfl ?_); refine Kd.R_lit Kd.bool _ 4 ?hg (N := 32) ?hd (xs := ([] : List Bool)) (inner := []) (ok := fun _ => True) (okp := fun _ => True) ?hr ?hp (fun _ hk => hk) trivial (Below.refl _ _) (Nat.le_refl _) (by simp) ?_; (case hd => rfl); (case hg => rfl); (case hr => first | (go_simp; done) | (go_simp; rfl)); (case hp => exact (Reps.none _ _)); intro v9 wv9 ho hb hg_ hnew_; clear hg_ hnew_; have HOv9 := Aside0.mk ho; have HBv9 := Aside0.mk hb; clear ho hb))
    go_ret3
    have hb8 := below_step M3.out.below HBv8.out
    exact ⟨v8, v9, by rw [HR.out.1]; rfl, by rw [HR.out.2.1]; exact Kd.R_lower (Kd.R_below HOv8.out HBv9.out) M3.out.below.size, by rw [HR.out.2.2]; exact Kd.R_lower HOv9.out hb8.size, below_step hb8 HBv9.out⟩
  have hre := hgd hb
  have HR := Aside0.mk (st_yes HOK.out (show (flowOf x jf).bad = false from hbd ▸ hb))
  rw [hb] at q3
  have ok := fn_ok HI.out (el_mem zFunc hjf)
  obtain ⟨n, hnl⟩ : ∃ n : Nat, n = r.list.length := ⟨_, rfl⟩
  have hn300 : n ≤ 300 := by rw [hnl, hre, (final_len ok.rg.1 ok.pr.1).1]; exact ok.kl.2
  have HSM := Aside0.mk (show Small 40 r from fun y hy => Nat.le_trans (final_small ok.rg.1 ok.pr.1 y (hre ▸ hy)) (by have := ok.rg; omega))
  have HRE := Aside0.mk (show r = flowOf x jf from hre)
  have hgl : ∃ (AL : Option Addr) (cl : Nat), vl = .slice AL n cl := by obtain ⟨A, c, h⟩ := Kd.R_slice RR.out.L; exact ⟨A, c, by rw [h, hnl]⟩
  obtain ⟨AL, cl, hvl⟩ := hgl
  subst hvl
  have NL := Aside0.mk hnl
  clear hb hbd hgd hre hnl ok HOK
  go_upto_region 6 with fail
  go_wp2_with ((with_reducible refine gate_dst (N := 33) rfl ?_); refine Kd.R_lit kStateI _ 31 ?hg (N := 33) ?hd (xs := ([] : List State)) (inner := []) (ok := fun _ => True) (okp := fun _ => True) ?hr ?hp (fun _ hk => hk) trivial (Below.refl _ _) (Nat.le_refl _) (by simp) ?_; (case hd => rfl); (case hg => rfl); (case hr => first | (go_simp; done) | (go_simp; rfl)); (case hp => exact (Reps.none _ _)); intro v8 wv8 ho hb hg_ hnew_; clear hg_ hnew_; have HOv8 := Aside0.mk ho; have HBv8 := Aside0.mk hb; clear ho hb)
  have hsz := M3.out.below.size
  go_loopw [8, 9] (fun u v wx => ∃ j : Nat, v = .int .i64 j ∧ j ≤ n ∧ Aside0 (kStateI.R 31 wx w4.heap.size (fun _ => True) u (r.list.take j)) ∧ Aside0 (Below w4.heap.size w4 wx)) (fun _ v _ => n - (intOf v).toNat)
  case atStart => exact ⟨0, rfl, by omega, HOv8, HBv8⟩
  case round =>
  clear HOv8 HBv8 q3
  obtain ⟨j, rfl, hj, HO, HB⟩ := hrel
  have q0 := pw_cell_below HB.out ((blk_cell RR.out.box 0).trans rfl)
  by_cases hlt : j < n
  rotate_left
  · have hle : ¬ (j : Int) < (n : Int) := by omega
    have hje : j = n := by omega
    have Q1 := Aside0.mk ((blk_cell RR.out.box 1).trans rfl); have Q0 := Aside0.mk ((blk_cell RR.out.box 0).trans rfl)
    have hlo := RR.out.hlo
    go_upto_region 11 with fail
    clear q0
    refine sz 8 (fun W => W.cell? ⟨g, 1, none⟩ = some vr ∧ W.cell? ⟨g, 0, none⟩ = some (.slice AL n cl)) [] imgS.tab11 imgS.bits11 ⟨pw_cell_below (below_drew1 HB.out) Q1.out, pw_cell_below (below_drew1 HB.out) Q0.out⟩ (fun HT_ HW_ hHeld => ?_)
    have CD := Aside0.mk (below_drew1 HB.out); have OUT := Aside0.mk (Kd.R_drew HO.out)
    generalize wr.drew = wd at CD OUT hHeld ⊢
    refine pz 0 65 ?_; refine pz 1 66 ?_; refine pz 2 67 ?_; refine pz 3 68 ?_; refine pz 5 4 ?_; refine tz 4 69 ?_; refine pz 6 5 ?_; refine pz 7 6 ?_
    refine dz ?_
    have RB := Aside0.mk (Kd.R_below RR.out.B CD.out)
    clear hHeld
    go_wp2
    go_ret3
    refine ⟨_, _, by rw [HR.out.1]; rfl, ?_, ?_, below_step M3.out.below CD.out⟩
    · rw [HR.out.2.1, ← HRE.out]
      have ho := OUT.out
      rw [hje, NL.out, List.take_length] at ho
      exact Kd.R_lower ho hsz
    · rw [HR.out.2.2, ← HRE.out]
      exact Kd.R_mono (Kd.R_lower RB.out (by omega)) (fun _ _ => trivial)
  have hle : (j : Int) < (n : Int) := by omega
  have hj0 : (0 : Int) ≤ (j : Int) := by omega
  obtain ⟨s, hse⟩ : ∃ s, s = el zState r.list j := ⟨_, rfl⟩
  have hls : s.regs.length ≤ 40 := by rw [hse]; exact HSM.out.at j
  obtain ⟨a, AS, yS, hAL, hK, e0, e1⟩ := StateI_at (Kd.R_reads' RR.out.L).2.2 j (by rw [← NL.out]; exact hlt)
  cases hAL
  obtain ⟨_, _, ce, _, hcs⟩ := kStateI_open hK
  injection ce with ce1 ce2; injection ce2 with ce3 _; injection ce3 with ce4 ce5 ce6; subst ce4; subst ce6; clear ce1 ce5 hK
  rw [← hse] at e0 e1 hcs
  have E0 := Aside0.mk e0; have E1 := Aside0.mk e1; have HCS := Aside0.mk hcs; have HSE := Aside0.mk hse; have Q0 := Aside0.mk ((blk_cell RR.out.box 0).trans rfl)
  clear e0 e1 hcs hse
  go_upto_region 10 with fail
  clear q0
  refine sz 23 (fun W => W.cell? ⟨g, 0, none⟩ = some (.slice (some a) n cl) ∧ W.cell? (a.add (j * 2)) = some (.int .i64 s.acc) ∧ W.cell? ⟨(a.add (j * 2)).block, (a.add (j * 2)).off + 1, none⟩ = some (.slice AS s.regs.length yS)) [] imgS.tab10 imgS.bits10 ⟨pw_cell_below (below_drew1 HB.out) Q0.out, pw_cell_below (below_drew1 HB.out) E0.out, pw_cell_below (below_drew1 HB.out) E1.out⟩ (fun HT_ HW_ hHeld => ?_)
  have CD := Aside0.mk (below_drew1 HB.out); have OUT := Aside0.mk (Kd.R_drew HO.out)
  generalize wr.drew = wd at CD OUT hHeld ⊢
  refine pz 0 43 ?_; refine pz 1 44 ?_; refine pz 2 45 ?_; refine pz 3 46 ?_; refine pz 5 48 ?_; refine pz 10 53 ?_; refine pz 11 54 ?_; refine pz 12 55 ?_; refine pz 14 57 ?_; refine tz 4 47 ?_; refine pz 6 49 ?_; refine pz 7 50 ?_; refine tz 8 51 ?_; refine tz 13 56 ?_; refine pz 15 58 ?_; refine pz 16 59 ?_; refine tz 17 60 ?_
  refine ez 9 (some 52) (fun K hK => ?_)
  refine Kd.R_lit_step (Kd.int .i64) (w0 := wd) wd.heap.size 3 ?hg (N := 52) ?hd (xs := ([] : List Int)) (inner := []) (ok := fun _ => True) (okp := fun _ => True) ?hr ?hp (fun _ hk => hk) trivial (Below.refl _ _) (Nat.le_refl _) (by simp) ?_; (case hd => rfl); (case hg => rfl); (case hr => first | (go_simp; done) | (go_simp; rfl)); (case hp => exact (Reps.none _ _))
  intro v5 w5 ho hb hg_ hnew_; clear hg_ hnew_
  have HO5 := Aside0.mk ho; have B5 := Aside0.mk hb; have C5 := Aside0.mk (below_step CD.out hb); clear ho hb
  refine hK.out _ _ ⟨pw_cell_below C5.out Q0.out, pw_cell_below C5.out E0.out, pw_cell_below C5.out E1.out⟩ (fun hHeld => ?_); clear hK K; refine kz (some 52) ?_
  refine ez 18 (some 61) (fun K hK => ?_)
  refine Kd.R_append_rows_step (Kd.int .i64) (w0 := wd) wd.heap.size (by rfl) (.tmp 52) (.tmp 60) 26 3 (.int .i64 0) 8 rfl Try.underlying26 info3 rfl (by decide) (by omega) v5 [] s.regs _ _ _ (fun _ => True) (fun _ => False) rfl rfl ?aO ?aR (fun _ _ h => h) (fun _ h => h.elim) ?aF ?aB ?aS ?aL ?_
  (case aR => exact Kd.C_below HCS.out C5.out)
  (case aO => exact HO5.out)
  (case aF => exact fun _ _ => trivial)
  (case aB => exact B5.out)
  (case aS => exact B5.out.size)
  (case aL => simp; omega)
  intro v6 w6 ho hb hg_ hat_; clear hg_ hat_
  rw [List.nil_append] at ho
  obtain ⟨A6, y6, rfl⟩ := Kd.R_slice ho
  have HO6 := Aside0.mk ho; have C6 := Aside0.mk (below_step CD.out hb); have OUT6 := Aside0.mk (Kd.R_below OUT.out hb); clear ho hb
  refine hK.out _ _ ⟨pw_cell_below C6.out Q0.out, pw_cell_below C6.out E0.out, pw_cell_below C6.out E1.out⟩ (fun hHeld => ?_); clear hK K; refine kz (some 61) ?_
  refine pz 19 62 ?_
  refine ez 20 (some 63) (fun K hK => ?_)
  refine value_ (w1 := ?_) (v := ?_) (by rfl) rfl ?_ ?_
  rotate_left 2
  · go_simp
    constructor
    · rfl
    · rfl
  refine hK.out _ _ ⟨pw_cell_below (below_alloc C6.out _) Q0.out, pw_cell_below (below_alloc C6.out _) E0.out, pw_cell_below (below_alloc C6.out _) E1.out⟩ (fun hHeld => ?_); clear hK K; refine kz (some 63) ?_
  refine ez 21 (some 64) (fun K hK => ?_)
  refine Kd.R_append_step kStateI (w0 := w4) w4.heap.size (by rfl) (.tmp 43) (.tmp 63) 48 31 (.agg #[.int .i64 0, .slice none 0 0]) 32 rfl Try.underlying48 (by kernel_rfl) rfl (by decide) (by omega) _ (r.list.take j) s [.int .i64 s.acc, .slice A6 s.regs.length y6] (fun _ => True) (fun k => wd.heap.size ≤ k) ?aV ?aX ?aP ?aK (fun _ _ => trivial) OUT6.out C6.out C6.out.size ?aL ?_
  (case aV => first | rfl | (go_simp; done) | (go_simp; rfl))
  (case aX => first | rfl | (go_simp; done) | (go_simp; rfl))
  (case aP => exact kStateI_mkM _ _ _ s (Kd.R_lower (Kd.R_mono (Kd.R_bound HO6.out) (fun k hk => hk.2.1)) CD.out.size))
  (case aK => exact fun k hk => ⟨trivial, fun he => by have := Kd.R_lt OUT.out k he.symm; omega⟩)
  (case aL => simp; omega)
  intro v9 w9 ho hb hg_ hat_; clear hg_ hat_
  have HO9 := Aside0.mk ho; have C9 := Aside0.mk hb; clear ho hb
  refine hK.out _ _ ⟨pw_cell_below C9.out Q0.out, pw_cell_below C9.out E0.out, pw_cell_below C9.out E1.out⟩ (fun hHeld => ?_); clear hK K; refine kz (some 64) ?_
  refine pz 22 8 ?_
  refine dz ?_
  clear hHeld
  go_wp2
  go_roundw
  case measure => simp [intOf]; omega
  case rel => exact ⟨j + 1, by go_num, by omega, ⟨by rw [take_el _ _ (by rw [← NL.out]; exact hlt), ← HSE.out]; exact HO9.out⟩, C9⟩
end Go.Proofs.Ytcbaokflimdjnaa.Flow
end
section
namespace Go.Proofs.Ytcbaokflimdjnaa.Flow
open Go.RowKit Go.Proofs.YtcbaokflimdjnaaW.PrintWords Go.Proofs.YtcbaokflimdjnaaW.PrintMore Go.Proofs.Ytcbaokflimdjnaa.Law Go.Proofs.Ytcbaokflimdjnaa Go.Proofs.Ytcbaokflimdjnaa.QFnExactVerify Go.Proofs.Ytcbaokflimdjnaa.Num
set_option linter.unusedVariables false
set_option linter.unusedSimpArgs false
set_option autoImplicit false
theorem bool_at {w : World} {A : Option Addr} {l : List Bool} (h : Kd.bool.C w A l.length l) (j : Nat) (hj : j < l.length) : ∃ a, A = some a ∧ w.cell? (a.add j) = some (.bool (el false l j)) := by
  obtain ⟨a, c, e, hK, hc⟩ := kd_at false h j hj
  have hc' : c = [.bool (el false l j)] := hK
  subst hc'
  exact ⟨a, e, by simpa [Kd.bool, Kd.scalar] using hc 0 _ rfl⟩
/-- How many of the first are true. -/
def trues (l : List Bool) : Nat := l.countP (fun b => b)
def reachI (x : Image) (fn : Int) : Int := if stOk x fn = true then (trues (stReached x fn) : Int) else -1
theorem trues_step (l : List Bool) (j : Nat) (h : j < l.length) : trues (l.take (j + 1)) = trues (l.take j) + (if el false l j = true then 1 else 0) := by
  unfold trues
  rw [List.take_add_one, List.getElem?_eq_getElem h, List.countP_append, el_lt false h]
  cases l[j] <;> simp
theorem trues_le (l : List Bool) (j : Nat) : trues (l.take j) ≤ l.length := Nat.le_trans List.countP_le_length (by rw [List.length_take]; omega)
theorem reached_len (x : Image) (fn : Int) : (stReached x fn).length ≤ 300 ∧ (stOk x fn = true → (stReached x fn).length = (el zFunc x.funcs fn.toNat).code.length ∧ 0 ≤ fn ∧ fn.toNat < x.funcs.length ∧ imgB x = true) := by
  rcases Bool.eq_false_or_eq_true (stOk x fn) with h | h
  · have h2 := h
    unfold stOk okFn at h2
    simp only [Bool.and_eq_true] at h2
    have hfr := of_decide_eq_true (show decide (0 ≤ fn ∧ fn ≤ (x.funcs.length : Int) - 1) = true from h2.1.2)
    have hjf : fn.toNat < x.funcs.length := by omega
    have ok := fn_ok h2.1.1 (el_mem zFunc hjf)
    have e : (stReached x fn).length = (el zFunc x.funcs fn.toNat).code.length := by unfold stReached; rw [if_pos h]; exact (final_len ok.rg.1 ok.pr.1).2
    exact ⟨by rw [e]; exact ok.kl.2, fun _ => ⟨e, hfr.1, hjf, h2.1.1⟩⟩
  · have e : stReached x fn = [] := by unfold stReached; rw [if_neg (by rw [h]; decide)]
    exact ⟨by rw [e]; simp, fun k => by rw [h] at k; cases k⟩
set_option maxHeartbeats 8000000 in
set_option maxRecDepth 100000 in
theorem cReachS (x : Image) (fn : Int) (A0 : Option Addr) (c0 : Nat) (A1 : Option Addr) (c1 : Nat) (w : World) (l0 : x.funcs.length ≤ c0) (g0 : kFuncI.C w A0 x.funcs.length x.funcs) (l1 : x.consts.length ≤ c1) (g1 : kConst.C w A1 x.consts.length x.consts) (hn : ∀ y ∈ x.consts, 0 ≤ y.num ∧ y.num < 18446744073709551616) :
    Calls Try.prog 25 #[.agg #[.slice A0 x.funcs.length c0, .slice A1 x.consts.length c1], .int .i64 fn] w fun e w' => e = .returned (.int .i64 (reachI x fn)) ∧ Below w.heap.size w w' := by
  have hu := Try.underlying37; have hu1 := Try.underlying34; have hu2 := Try.underlying73; have hu5 := Try.underlying49; have hu6 := Try.underlying70
  have G0 := Aside0.mk g0; have G1 := Aside0.mk g1; have HN := Aside0.mk hn; have L0 := Aside0.mk l0; have L1 := Aside0.mk l1
  clear g0 g1 hn l0 l1
  have M0 := Aside0.mk ((Mem.start w).allocAt rfl #[.slice A0 x.funcs.length c0, .slice A1 x.consts.length c1] 37)
  have z := M0.out.box (.head _)
  go_enter Try.func25, Try.ntmps25
  go_wp2_with fail
  refine (cSpStates x fn A0 c0 A1 c1 _ L0.out (Kd.C_below G0.out M0.out.below) L1.out (Kd.C_below G1.out M0.out.below) HN.out).mono ?_
  rintro e w1 ⟨v1, v2, rfl, hl, hr, hb⟩
  have M1 := Aside0.mk (M0.out.step hb)
  have HRR := Aside0.mk hr
  obtain ⟨A2, y2, hv2⟩ := Kd.R_slice hr
  subst hv2
  obtain ⟨l, hle⟩ : ∃ l, l = stReached x fn := ⟨_, rfl⟩
  have hl3 : l.length ≤ 300 := by rw [hle]; exact (reached_len x fn).1
  have HRD := Aside0.mk ((Kd.R_reads' hr).2.2)
  rw [← hle] at HRD ⊢
  have HLE := Aside0.mk hle
  clear hb M0 z hl hr HRR hle
  rcases Bool.eq_false_or_eq_true (stOk x fn) with ho | ho
  rotate_left
  · have HE := Aside0.mk (show reachI x fn = -1 by unfold reachI; rw [if_neg (by rw [ho]; decide)])
    rw [ho]
    go_wp2
    go_ret
    exact ⟨by rw [HE.out]; rfl, M1.out.below⟩
  have HE := Aside0.mk (show reachI x fn = (trues l : Int) by unfold reachI; rw [if_pos ho, HLE.out])
  rw [ho]
  clear ho
  go_upto_region 6 with fail
  go_loopw [8, 9] (fun u v wx => ∃ j : Nat, u = .int .i64 (trues (l.take j) : Int) ∧ v = .int .i64 j ∧ j ≤ l.length ∧ Aside0 (Below w1.heap.size w1 wx)) (fun _ v _ => l.length - (intOf v).toNat)
  case atStart => exact ⟨0, rfl, rfl, by omega, ⟨Below.refl _ _⟩⟩
  case round =>
  obtain ⟨j, rfl, rfl, hj, HB⟩ := hrel
  have htj := trues_le l j
  by_cases hlt : j < l.length
  · have hle : (j : Int) < (l.length : Int) := by omega
    have hj0 : (0 : Int) ≤ (j : Int) := by omega
    have HST := trues_step l j hlt
    obtain ⟨a, ha, y⟩ := bool_at HRD.out j hlt
    cases ha
    have y2 := pw_cell_below HB.out y
    clear y
    rcases Bool.eq_false_or_eq_true (el false l j) with hv | hv
    · rw [hv] at y2
      rw [hv, if_pos rfl] at HST
      go_wp2
      go_roundw
      case measure => simp [intOf]; omega
      case rel => exact ⟨j + 1, by rw [HST]; go_num, by go_num, by omega, HB⟩
    · rw [hv] at y2
      rw [hv, if_neg (by decide), Nat.add_zero] at HST
      go_wp2
      go_roundw
      case measure => simp [intOf]; omega
      case rel => exact ⟨j + 1, by rw [HST]; rfl, by go_num, by omega, HB⟩
  · have hle : ¬ (j : Int) < (l.length : Int) := by omega
    have hje : j = l.length := by omega
    have HF := Aside0.mk (show trues (l.take j) = trues l by rw [hje, List.take_length])
    go_wp2
    go_ret
    exact ⟨by rw [HE.out]; first | rfl | (rw [← HF.out]; rfl), below_step M1.out.below HB.out⟩
set_option maxHeartbeats 8000000 in
set_option maxRecDepth 100000 in
theorem cReachI (x : Image) (fn : Int) (A0 : Option Addr) (c0 : Nat) (A1 : Option Addr) (c1 : Nat) (w : World) (l0 : x.funcs.length ≤ c0) (g0 : kFuncI.C w A0 x.funcs.length x.funcs) (l1 : x.consts.length ≤ c1) (g1 : kConst.C w A1 x.consts.length x.consts) (hn : ∀ y ∈ x.consts, 0 ≤ y.num ∧ y.num < 18446744073709551616) :
    Calls Try.prog 26 #[.agg #[.slice A0 x.funcs.length c0, .slice A1 x.consts.length c1], .int .i64 fn] w fun e w' => e = .returned (.int .i64 (reachI x fn)) ∧ Below w.heap.size w w' := by
  have hu := Try.underlying37; have hu1 := Try.underlying34; have hu2 := Try.underlying73; have hu5 := Try.underlying49; have hu6 := Try.underlying70
  have G0 := Aside0.mk g0; have G1 := Aside0.mk g1; have HN := Aside0.mk hn; have L0 := Aside0.mk l0; have L1 := Aside0.mk l1
  clear g0 g1 hn l0 l1
  have M0 := Aside0.mk ((Mem.start w).allocAt rfl #[.slice A0 x.funcs.length c0, .slice A1 x.consts.length c1] 37)
  have z := M0.out.box (.head _)
  go_enter Try.func26, Try.ntmps26
  go_wp2_with fail
  refine (cImStates x fn A0 c0 A1 c1 _ L0.out (Kd.C_below G0.out M0.out.below) L1.out (Kd.C_below G1.out M0.out.below) HN.out).mono ?_
  rintro e w1 ⟨v1, v2, rfl, hl, hr, hb⟩
  have M1 := Aside0.mk (M0.out.step hb)
  have HRR := Aside0.mk hr
  obtain ⟨A2, y2, hv2⟩ := Kd.R_slice hr
  subst hv2
  obtain ⟨l, hle⟩ : ∃ l, l = stReached x fn := ⟨_, rfl⟩
  have hl3 : l.length ≤ 300 := by rw [hle]; exact (reached_len x fn).1
  have HRD := Aside0.mk ((Kd.R_reads' hr).2.2)
  rw [← hle] at HRD ⊢
  have HLE := Aside0.mk hle
  clear hb M0 z hl hr HRR hle
  rcases Bool.eq_false_or_eq_true (stOk x fn) with ho | ho
  rotate_left
  · have HE := Aside0.mk (show reachI x fn = -1 by unfold reachI; rw [if_neg (by rw [ho]; decide)])
    rw [ho]
    go_wp2
    go_ret
    exact ⟨by rw [HE.out]; rfl, M1.out.below⟩
  have HE := Aside0.mk (show reachI x fn = (trues l : Int) by unfold reachI; rw [if_pos ho, HLE.out])
  rw [ho]
  clear ho
  go_upto_region 6 with fail
  go_loopw [8, 22] (fun u v wx => ∃ j : Nat, u = .int .i64 (trues (l.take j) : Int) ∧ v = .int .i64 j ∧ j ≤ l.length ∧ Aside0 (Below w1.heap.size w1 wx)) (fun _ v _ => l.length - (intOf v).toNat)
  case atStart => exact ⟨0, rfl, rfl, by omega, ⟨Below.refl _ _⟩⟩
  case round =>
  obtain ⟨j, rfl, rfl, hj, HB⟩ := hrel
  have htj := trues_le l j
  by_cases hlt : j < l.length
  · have hle : (j : Int) < (l.length : Int) := by omega
    have hj0 : (0 : Int) ≤ (j : Int) := by omega
    have HST := trues_step l j hlt
    obtain ⟨a, ha, y⟩ := bool_at HRD.out j hlt
    cases ha
    have y2 := pw_cell_below HB.out y
    clear y
    rcases Bool.eq_false_or_eq_true (el false l j) with hv | hv
    · rw [hv] at y2
      rw [hv, if_pos rfl] at HST
      go_wp2
      go_roundw
      case measure => simp [intOf]; omega
      case rel => exact ⟨j + 1, by rw [HST]; go_num, by go_num, by omega, HB⟩
    · rw [hv] at y2
      rw [hv, if_neg (by decide), Nat.add_zero] at HST
      go_wp2
      go_roundw
      case measure => simp [intOf]; omega
      case rel => exact ⟨j + 1, by rw [HST]; rfl, by go_num, by omega, HB⟩
  · have hle : ¬ (j : Int) < (l.length : Int) := by omega
    have hje : j = l.length := by omega
    have HF := Aside0.mk (show trues (l.take j) = trues l by rw [hje, List.take_length])
    go_wp2
    go_ret
    exact ⟨by rw [HE.out]; first | rfl | (rw [← HF.out]; rfl), below_step M1.out.below HB.out⟩
end Go.Proofs.Ytcbaokflimdjnaa.Flow
end
section
namespace Go.Proofs.Ytcbaokflimdjnaa.LawFnExactReached
open Go.RowKit Go.Proofs.YtcbaokflimdjnaaW.PrintWords Go.Proofs.YtcbaokflimdjnaaW.PrintMore Go.Proofs.Ytcbaokflimdjnaa.Law Go.Proofs.Ytcbaokflimdjnaa.Num Go.Proofs.Ytcbaokflimdjnaa Go.Proofs.Ytcbaokflimdjnaa.Flow
set_option linter.unusedVariables false
set_option linter.unusedSimpArgs false
set_option autoImplicit false
set_option maxHeartbeats 8000000 in
set_option maxRecDepth 100000 in
theorem w1 (x : Image) (fn : Int) (A0 A1 : Option Addr) (c0 c1 : Nat) (w : World) (hx : kImageL.K w x [.slice A0 x.funcs.length c0, .slice A1 x.consts.length c1]) (gx : GoodImage x) (e1 : sub 1048576 (sizeImage x) = -1) :
    Calls Try.prog 5 #[.agg #[.slice A0 x.funcs.length c0, .slice A1 x.consts.length c1], .int .i64 fn] w fun e w' => e = .returned (.bool true) ∧ Below w.heap.size w w' := by
  have hu := Try.underlying25; have hu2 := Try.underlying37
  have HX := Aside0.mk hx; clear hx
  have M0 := Aside0.mk ((Mem.start w).allocAt rfl #[.slice A0 x.funcs.length c0, .slice A1 x.consts.length c1] 25)
  go_enter Try.func5, Try.ntmps5
  go_wp2_with fail
  have C := szImage x _ 1048576 _ (M0.out.old HX.out) gx (by omega) (by omega)
  rw [e1] at C
  refine C.mono ?_; clear C
  rintro e w1 ⟨rfl, hb⟩
  have M1 := Aside0.mk (M0.out.step hb); clear M0 hb; have z0 := M1.out.box (.head _)
  go_wp2
  go_ret
  exact ⟨rfl, M1.out.below⟩
set_option maxHeartbeats 8000000 in
set_option maxRecDepth 100000 in
theorem w2 (x : Image) (fn : Int) (A0 A1 : Option Addr) (c0 c1 : Nat) (w : World) (hx : kImageL.K w x [.slice A0 x.funcs.length c0, .slice A1 x.consts.length c1]) (gx : GoodImage x) (s1 : Int) (e1 : sub 1048576 (sizeImage x) = s1) (n1 : 0 ≤ s1) (hlx : LenImage x) (hn : ∀ y ∈ x.consts, 0 ≤ y.num ∧ y.num < 18446744073709551616) :
    Calls Try.prog 5 #[.agg #[.slice A0 x.funcs.length c0, .slice A1 x.consts.length c1], .int .i64 fn] w fun e w' => e = .returned (.bool true) ∧ Below w.heap.size w w' := by
  have hu := Try.underlying25; have hu2 := Try.underlying37
  have HX := Aside0.mk hx; have HLX := Aside0.mk hlx; have HN := Aside0.mk hn; clear hx hlx hn
  obtain ⟨s, hs⟩ : ∃ s, s = reachI x fn := ⟨_, rfl⟩
  have HS := Aside0.mk hs; clear hs
  have hr1 : (s != s) = false := by simp
  have M0 := Aside0.mk ((Mem.start w).allocAt rfl #[.slice A0 x.funcs.length c0, .slice A1 x.consts.length c1] 25)
  go_enter Try.func5, Try.ntmps5
  go_wp2_with fail
  have C := szImage x _ 1048576 _ (M0.out.old HX.out) gx (by omega) (by omega)
  rw [e1] at C
  refine C.mono ?_; clear C
  rintro e w1 ⟨rfl, hb⟩
  have M1 := Aside0.mk (M0.out.step hb); clear M0 hb; have z0 := M1.out.box (.head _)
  have m1 : decide (s1 < 0) = false := by simp; omega
  go_wp2_with fail
  clear z0
  refine (toImage x _ _ (M1.out.old HX.out) HLX.out).mono ?_; rintro e w2 ⟨ds, rfl, hm, hb⟩; obtain ⟨q0, d0, q1, d1, rfl, i0, j0, i1, j1⟩ := kImageI_open (kImageI.K_of_M hm)
  have M2 := Aside0.mk (M1.out.push hb hm); clear hm hb M1
  have I0 := Aside0.mk i0; have J0 := Aside0.mk j0; have I1 := Aside0.mk i1; have J1 := Aside0.mk j1; clear i0 j0 i1 j1
  have z0 := M2.out.box (.tail _ (.head _))
  go_wp2_with fail
  clear z0
  refine (cReachS x fn _ _ _ _ _ I0.out J0.out I1.out J1.out HN.out).mono ?_; rintro e w3 ⟨rfl, hb⟩
  have M3 := Aside0.mk ((M2.out.step hb).drop); clear hb M2 I0 J0 I1 J1
  rw [← HS.out]
  have z0 := M3.out.box (.head _)
  go_wp2_with fail
  clear z0
  refine (toImage x _ _ (M3.out.old HX.out) HLX.out).mono ?_; rintro e w4 ⟨ds, rfl, hm, hb⟩; obtain ⟨q2, d2, q3, d3, rfl, i0, j0, i1, j1⟩ := kImageI_open (kImageI.K_of_M hm)
  have N4 := Aside0.mk (M3.out.push hb hm); clear hm hb M3 i0 j0 i1 j1
  have M4 := Aside0.mk (N4.out.allocAt rfl #[.slice q2 x.funcs.length d2, .slice q3 x.consts.length d3] 37); clear N4
  have z0 := M4.out.box (.tail _ (.tail _ (.head _))); have z1 := M4.out.box (.head _)
  go_wp2_with fail
  clear z0 z1
  obtain ⟨i0, j0, i1, j1⟩ : x.funcs.length ≤ d2 ∧ kFuncI.C (w4.alloc (.cells #[.slice q2 x.funcs.length d2, .slice q3 x.consts.length d3] 37)) q2 x.funcs.length x.funcs ∧ x.consts.length ≤ d3 ∧ kConst.C (w4.alloc (.cells #[.slice q2 x.funcs.length d2, .slice q3 x.consts.length d3] 37)) q3 x.consts.length x.consts := by
    obtain ⟨q0', d0', q1', d1', h, i0, j0, i1, j1⟩ := kImageI_open (M4.out.read (.tail _ (.head _)))
    cases h
    exact ⟨i0, j0, i1, j1⟩
  refine (cReachI x fn _ _ _ _ _ i0 j0 i1 j1 HN.out).mono ?_; rintro e w5 ⟨rfl, hb⟩
  have M5 := Aside0.mk (M4.out.step hb); clear hb M4
  rw [← HS.out]
  have z0 := M5.out.box (.tail _ (.tail _ (.head _))); have z1 := M5.out.box (.head _)
  go_wp2_with fail
  have RX := Aside0.mk (M5.out.read (.tail _ (.head _)))
  obtain ⟨L, HL, ML⟩ := Mem.hide M5
  have Ebx := Aside0.mk (show (Hold.box w4.heap.size #[.slice q2 x.funcs.length d2, .slice q3 x.consts.length d3] 37) ∈ L from HL.out ▸ (.head _))
  have EbA := Aside0.mk (show (Hold.box w.heap.size #[.slice A0 x.funcs.length c0, .slice A1 x.consts.length c1] 25) ∈ L from HL.out ▸ (.tail _ (.tail _ (.head _))))
  clear M5 z0 z1
  go_region_held3 (fun W => (∀ o, W.cell? ⟨w4.heap.size, o, none⟩ = (#[.slice q2 x.funcs.length d2, .slice q3 x.consts.length d3] : Array Value)[o]?) ∧ (∀ o, W.cell? ⟨w.heap.size, o, none⟩ = (#[.slice A0 x.funcs.length c0, .slice A1 x.consts.length c1] : Array Value)[o]?) ∧ Mem w W L) (first | exact ⟨(ML.out.drew).box Ebx.out, (ML.out.drew).box EbA.out, ML.out.drew⟩ | exact ⟨(N6.out.drop).box Ebx.out, (N6.out.drop).box EbA.out, N6.out.drop⟩ | exact ⟨(M7.out).box Ebx.out, (M7.out).box EbA.out, M7.out⟩) (first | (go_at_call 15; refine (toImage x _ _ (ML.out.drew.old HX.out) HLX.out).mono ?_; rintro e w6 ⟨ds, rfl, hm, hb⟩; obtain ⟨v0, v1, rfl, hr0, hr1⟩ := kImageI_openM hm; obtain ⟨X0, y0, rfl⟩ := Kd.R_slice hr0; obtain ⟨X1, y1, rfl⟩ := Kd.R_slice hr1; clear hr0 hr1; have N6 := Aside0.mk (ML.out.drew.push hb hm); have RX2 := Aside0.mk (kImageI.K_below (below_step (below_drew1 (Below.refl _ _)) hb) RX.out); clear hm hb) | (go_at_call 19; have C := eqImage x x _ _ _ RX2.out (N6.out.read (.head _)); rw [decide_eq_true rfl] at C; refine C.mono ?_; clear C; rintro e w7 ⟨rfl, hb⟩; have M7 := Aside0.mk ((N6.out.step hb).drop); clear hb))
  clear ML RX RX2 N6
  have hl := HL.out; subst hl; clear HL Ebx EbA
  go_wp2
  go_ret
  exact ⟨rfl, M7.out.below⟩
theorem le_sum {l : List Func} {y : Func} (h : y ∈ l) : sizeFunc y ≤ (l.map sizeFunc).sum := by
  induction l with
  | nil => cases h
  | cons a l ih =>
    rw [List.map_cons, List.sum_cons]
    rcases List.mem_cons.1 h with rfl | h
    · omega
    · have := ih h
      omega
theorem len_ok {x : Image} (h : (sizeImage x : Int) ≤ 1048576) : LenImage x := by
  have e : sizeImage x = x.funcs.length + (x.funcs.map sizeFunc).sum + (x.consts.length + (x.consts.map sizeConst).sum) := rfl
  refine ⟨by omega, fun y hy => ?_, by omega⟩
  have h1 := le_sum hy
  have e2 : sizeFunc y = y.caps.length + y.code.length + y.handlers.length := rfl
  exact ⟨by omega, by omega, by omega⟩
theorem law {GF : Func → Prop} (A0_0 : Option Addr) (c0_0 : Nat) (l0_0 : List Func) (A0_1 : Option Addr) (c0_1 : Nat) (l0_1 : List Const) (z1 : Int) (w : World)
    (hr0_0 : kFuncL.C w A0_0 l0_0.length l0_0) (hc0_0 : l0_0.length ≤ c0_0) (hr0_1 : kConst.C w A0_1 l0_1.length l0_1) (hc0_1 : l0_1.length ≤ c0_1)
    (g0 : (l0_0.length ≤ maxLen ∧ ∀ x ∈ l0_0, GF x) ∧ (l0_1.length ≤ maxLen ∧ ∀ x ∈ l0_1, (Lit.int .i64 x.kind).wf = true ∧ (Lit.int .u64 x.num).wf = true ∧ x.text.size ≤ maxLen)) (g1 : (Lit.int .i64 z1).wf = true) :
    Calls Try.prog 5 #[.agg #[.slice A0_0 l0_0.length c0_0, .slice A0_1 l0_1.length c0_1], .int .i64 z1] w fun e w' => e = .returned (.bool true) ∧ Below w.heap.size w w' := by
  have hx := kImageL_mk w ⟨l0_0, l0_1⟩ hc0_0 hr0_0 hc0_1 hr0_1
  have gx : GoodImage ⟨l0_0, l0_1⟩ := ⟨fun _ _ => trivial, fun y hy => (g0.2.2 y hy).2.2⟩
  by_cases n1 : (1048576 : Int) < (sizeImage ⟨l0_0, l0_1⟩ : Int)
  · exact w1 ⟨l0_0, l0_1⟩ z1 _ _ _ _ w hx gx (by unfold sub; rw [if_pos n1])
  · have e1 : sub 1048576 (sizeImage ⟨l0_0, l0_1⟩) = 1048576 - (sizeImage ⟨l0_0, l0_1⟩ : Int) := by unfold sub; rw [if_neg n1]
    exact w2 ⟨l0_0, l0_1⟩ z1 _ _ _ _ w hx gx _ e1 (by omega) (len_ok (by omega)) (fun y hy => by have h := (g0.2.2 y hy).2.1; exact wf_u64 h)
end Go.Proofs.Ytcbaokflimdjnaa.LawFnExactReached
end
