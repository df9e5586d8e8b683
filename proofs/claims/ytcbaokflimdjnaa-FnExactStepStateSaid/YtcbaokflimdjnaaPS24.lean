/- Part 24 of the proof: general lemmas, contracts of functions, walks. No condition of its own. -/
import Derived.Deep.RegionWith
import Derived.Deep.RegionHeld3
import Derived.Deep.DeepCutAuto
import Derived.Test.YtcbaokflimdjnaaPS22
import Derived.Test.YtcbaokflimdjnaaPS23
import Derived.Test.YtcbaokflimdjnaaPS12
import Derived.Test.YtcbaokflimdjnaaPS21
section
namespace Go.Proofs.Ytcbaokflimdjnaa.WalkFnExactStepState
open Go.RowKit Go.Proofs.YtcbaokflimdjnaaW.PrintWords Go.Proofs.YtcbaokflimdjnaaW.PrintLast Go.Proofs.Ytcbaokflimdjnaa.Steps Go.Proofs.YtcbaokflimdjnaaW.PrintMore Go.Proofs.Ytcbaokflimdjnaa.Law Go.Proofs.Ytcbaokflimdjnaa.Num Go.Proofs.Ytcbaokflimdjnaa Go.Proofs.Ytcbaokflimdjnaa.Flow
set_option linter.unusedVariables false
set_option linter.unusedSimpArgs false
set_option autoImplicit false
def law.T8 : Bool × List (List Nat × List Nat) := (true, [([], []), ([0], [0]), ([], []), ([], []), ([], []), ([4, 1], [4]), ([1, 2, 3, 5, 5], [1, 2, 3, 5]), ([6], [6]), ([7], [7]), ([7], [7]), ([], []), ([10, 8, 6, 0, 1, 2, 3, 4, 5, 6, 7, 8, 10], [8, 10]), ([9, 11, 0, 1, 2, 3, 4, 5, 6, 7, 8, 9, 10, 11], [9])])
def law.B8 : List Nat := [0, 1, 0, 0, 0, 19, 63, 127, 255, 255, 0, 1535, 4095]
theorem law.tab8 : rtab .any (opsOf Try.f3 8) = law.T8 := by kernel_rfl
theorem law.bits8 : waitsOk law.T8.2 law.B8 = true := by kernel_rfl
def law.T14 : Bool × List (List Nat × List Nat) := (true, [([], []), ([], []), ([1], [1]), ([0, 2, 2], [0, 2]), ([3], [3])])
def law.B14 : List Nat := [0, 0, 2, 7, 15]
theorem law.tab14 : rtab .any (opsOf Try.f3 14) = law.T14 := by kernel_rfl
theorem law.bits14 : waitsOk law.T14.2 law.B14 = true := by kernel_rfl
def law.T16 : Bool × List (List Nat × List Nat) := (true, [([], []), ([], []), ([1], [1]), ([0, 2, 2], [0, 2]), ([3], [3])])
def law.B16 : List Nat := [0, 0, 2, 7, 15]
theorem law.tab16 : rtab .any (opsOf Try.f3 16) = law.T16 := by kernel_rfl
theorem law.bits16 : waitsOk law.T16.2 law.B16 = true := by kernel_rfl
def law.T31 : Bool × List (List Nat × List Nat) := (true, [([], []), ([0], [0]), ([], []), ([], []), ([], []), ([4, 1], [4]), ([1, 2, 3, 5, 5], [1, 2, 3, 5]), ([6], [6]), ([7], [7]), ([7], [7]), ([], []), ([10, 8, 6, 0, 1, 2, 3, 4, 5, 6, 7, 8, 10], [8, 10]), ([9, 11, 0, 1, 2, 3, 4, 5, 6, 7, 8, 9, 10, 11], [9])])
def law.B31 : List Nat := [0, 1, 0, 0, 0, 19, 63, 127, 255, 255, 0, 1535, 4095]
theorem law.tab31 : rtab .any (opsOf Try.f3 31) = law.T31 := by kernel_rfl
theorem law.bits31 : waitsOk law.T31.2 law.B31 = true := by kernel_rfl
theorem _root_.Go.Proofs.Ytcbaokflimdjnaa.Law.Mem.sub {w W : World} {H H2 : List Hold} (h : Mem w W H) (hs : H2.Sublist H) : Mem w W H2 :=
  ⟨h.below, fun x hx => h.says x (hs.subset hx), fun x hx => h.fits x (hs.subset hx), h.apart.sublist hs⟩
theorem cnt_big {l : List Func} (h : ∀ y ∈ l, LenFunc y) : cntFuncs l ≤ l.length * 8388610 := by
  unfold cntFuncs
  induction l with
  | nil => simp
  | cons a l ih =>
    rw [List.map_cons, List.sum_cons, List.length_cons]
    have h1 := ih (fun y hy => h y (List.mem_cons_of_mem _ hy))
    have h2 := h a List.mem_cons_self
    unfold LenFunc at h2
    have h3 : cntFunc a ≤ 8388610 := by unfold cntFunc; omega
    omega
set_option maxHeartbeats 8000000 in
set_option maxRecDepth 100000 in
theorem w1 (x : Image) (fn at_ : Int) (y : State) (A0 A1 B : Option Addr) (c0 c1 d : Nat) (w : World) (hx : kImageL.K w x [.slice A0 x.funcs.length c0, .slice A1 x.consts.length c1]) (gx : GoodImage x) (hy : kStateL.K w y [.int .i64 y.acc, .slice B y.regs.length d]) (e1 : sub 1048576 (sizeImage x) = -1) :
    Calls Try.prog 3 #[.agg #[.slice A0 x.funcs.length c0, .slice A1 x.consts.length c1], .int .i64 fn, .int .i64 at_, .agg #[.int .i64 y.acc, .slice B y.regs.length d]] w fun e w' => e = .returned (.bool true) ∧ Below w.heap.size w w' := by
  have hu := Try.underlying25; have hu2 := Try.underlying37; have hu3 := Try.underlying28; have hu4 := Try.underlying31
  have HX := Aside0.mk hx; have HY := Aside0.mk hy; clear hx hy
  have M0 := Aside0.mk (((Mem.start w).allocAt rfl #[.slice A0 x.funcs.length c0, .slice A1 x.consts.length c1] 25).allocAt (g := w.heap.size + 1) (by simp) #[.int .i64 y.acc, .slice B y.regs.length d] 28)
  have z0 := M0.out.box (.tail _ (.head _)); have z1 := M0.out.box (.head _)
  go_enter Try.func3, Try.ntmps3
  go_wp2_with fail
  have C := szImage x _ 1048576 _ (M0.out.old HX.out) gx (by omega) (by omega)
  rw [e1] at C
  refine C.mono ?_; clear C
  rintro e w1 ⟨rfl, hb⟩
  have M1 := Aside0.mk (M0.out.step hb); clear M0 hb z0 z1; have z0 := M1.out.box (.tail _ (.head _)); have z1 := M1.out.box (.head _)
  go_wp2
  go_ret
  exact ⟨rfl, M1.out.below⟩
set_option maxHeartbeats 8000000 in
set_option maxRecDepth 100000 in
theorem w2 (x : Image) (fn at_ : Int) (y : State) (A0 A1 B : Option Addr) (c0 c1 d : Nat) (w : World) (hx : kImageL.K w x [.slice A0 x.funcs.length c0, .slice A1 x.consts.length c1]) (gx : GoodImage x) (hy : kStateL.K w y [.int .i64 y.acc, .slice B y.regs.length d]) (s1 : Int) (e1 : sub 1048576 (sizeImage x) = s1) (n1 : 0 ≤ s1) (n2 : s1 ≤ 1048576) (e2 : sub s1 (sizeState y) = -1) :
    Calls Try.prog 3 #[.agg #[.slice A0 x.funcs.length c0, .slice A1 x.consts.length c1], .int .i64 fn, .int .i64 at_, .agg #[.int .i64 y.acc, .slice B y.regs.length d]] w fun e w' => e = .returned (.bool true) ∧ Below w.heap.size w w' := by
  have hu := Try.underlying25; have hu2 := Try.underlying37; have hu3 := Try.underlying28; have hu4 := Try.underlying31
  have HX := Aside0.mk hx; have HY := Aside0.mk hy; clear hx hy
  have M0 := Aside0.mk (((Mem.start w).allocAt rfl #[.slice A0 x.funcs.length c0, .slice A1 x.consts.length c1] 25).allocAt (g := w.heap.size + 1) (by simp) #[.int .i64 y.acc, .slice B y.regs.length d] 28)
  have z0 := M0.out.box (.tail _ (.head _)); have z1 := M0.out.box (.head _)
  go_enter Try.func3, Try.ntmps3
  go_wp2_with fail
  have C := szImage x _ 1048576 _ (M0.out.old HX.out) gx (by omega) (by omega)
  rw [e1] at C
  refine C.mono ?_; clear C
  rintro e w1 ⟨rfl, hb⟩
  have M1 := Aside0.mk (M0.out.step hb); clear M0 hb z0 z1; have z0 := M1.out.box (.tail _ (.head _)); have z1 := M1.out.box (.head _)
  have m1 : decide (s1 < 0) = false := by simp; omega
  go_wp2_with fail
  have C := szState y _ s1 _ (M1.out.old HY.out) trivial (by omega) (by omega)
  rw [e2] at C
  refine C.mono ?_; clear C
  rintro e w2 ⟨rfl, hb⟩
  have M2 := Aside0.mk (M1.out.step hb); clear M1 hb z0 z1; have z0 := M2.out.box (.tail _ (.head _)); have z1 := M2.out.box (.head _)
  go_wp2
  go_ret
  exact ⟨rfl, M2.out.below⟩
set_option maxHeartbeats 8000000 in
set_option maxRecDepth 100000 in
theorem w3 (x : Image) (fn at_ : Int) (y : State) (A0 A1 B : Option Addr) (c0 c1 d : Nat) (w : World) (hx : kImageL.K w x [.slice A0 x.funcs.length c0, .slice A1 x.consts.length c1]) (gx : GoodImage x) (hy : kStateL.K w y [.int .i64 y.acc, .slice B y.regs.length d]) (s1 s2 : Int) (e1 : sub 1048576 (sizeImage x) = s1) (n1 : 0 ≤ s1) (n2 : s1 ≤ 1048576) (e2 : sub s1 (sizeState y) = s2) (n3 : 0 ≤ s2) (hlx : LenImage x) (hn : ∀ y ∈ x.consts, 0 ≤ y.num ∧ y.num < 18446744073709551616) (hly : y.regs.length ≤ 1048576) :
    Calls Try.prog 3 #[.agg #[.slice A0 x.funcs.length c0, .slice A1 x.consts.length c1], .int .i64 fn, .int .i64 at_, .agg #[.int .i64 y.acc, .slice B y.regs.length d]] w fun e w' => e = .returned (.bool true) ∧ Below w.heap.size w w' := by
  have hu := Try.underlying25; have hu2 := Try.underlying37; have hu3 := Try.underlying28; have hu4 := Try.underlying31
  have HX := Aside0.mk hx; have HY := Aside0.mk hy; clear hx hy
  have M0 := Aside0.mk (((Mem.start w).allocAt rfl #[.slice A0 x.funcs.length c0, .slice A1 x.consts.length c1] 25).allocAt (g := w.heap.size + 1) (by simp) #[.int .i64 y.acc, .slice B y.regs.length d] 28)
  have z0 := M0.out.box (.tail _ (.head _)); have z1 := M0.out.box (.head _)
  go_enter Try.func3, Try.ntmps3
  go_wp2_with fail
  have C := szImage x _ 1048576 _ (M0.out.old HX.out) gx (by omega) (by omega)
  rw [e1] at C
  refine C.mono ?_; clear C
  rintro e w1 ⟨rfl, hb⟩
  have M1 := Aside0.mk (M0.out.step hb); clear M0 hb z0 z1; have z0 := M1.out.box (.tail _ (.head _)); have z1 := M1.out.box (.head _)
  have m1 : decide (s1 < 0) = false := by simp; omega
  have m2 : decide (s2 < 0) = false := by simp; omega
  go_wp2_with fail
  have C := szState y _ s1 _ (M1.out.old HY.out) trivial (by omega) (by omega)
  rw [e2] at C
  refine C.mono ?_; clear C
  rintro e w2 ⟨rfl, hb⟩
  have M2 := Aside0.mk (M1.out.step hb); clear M1 hb z0 z1; have z0 := M2.out.box (.tail _ (.head _)); have z1 := M2.out.box (.head _)
  obtain ⟨r, hr⟩ : ∃ r, r = sfRes x fn at_ y := ⟨_, rfl⟩
  obtain ⟨b, hbq⟩ : ∃ b, b = sfOk x fn at_ y := ⟨_, rfl⟩
  have hrl : r.regs.length ≤ 1048576 := by
    rw [hr]; unfold sfRes; split
    · rw [after_len]; exact hly
    · exact Nat.zero_le _
  have HLX := Aside0.mk hlx; have HLY := Aside0.mk hly; have HN := Aside0.mk hn; have HR := Aside0.mk hr; have HBQ := Aside0.mk hbq; have HJ := Aside0.mk hrl
  have hbb : (b != b) = false := by simp
  clear hlx hly hn hr hbq hrl
  go_upto_region 8 with fail
  clear z0 z1
  obtain ⟨L, HL, ML⟩ := Mem.hide M2
  have EbI := Aside0.mk (show (Hold.box w.heap.size #[.slice A0 x.funcs.length c0, .slice A1 x.consts.length c1] 25) ∈ L from HL.out ▸ (.tail _ (.head _)))
  have EbS := Aside0.mk (show (Hold.box (w.heap.size + 1) #[.int .i64 y.acc, .slice B y.regs.length d] 28) ∈ L from HL.out ▸ (.head _))
  clear M2
  go_cut [10, 11] (fun sl s2 wx => ∃ (g lo hi : Nat) (X : Option Addr) (Y : Nat) (W : World), sl = .pointer (some ⟨g, 0, none⟩) ∧ s2 = .bool b ∧ Aside0 (W = wx) ∧ Aside0 (Mem w W ((Hold.box g #[.int .i64 r.acc, .slice X r.regs.length Y] 31) :: (Hold.val kStateI lo hi r [.int .i64 r.acc, .slice X r.regs.length Y]) :: L)))
  case first =>
    refine sz 13 (fun W => W.cell? ⟨w.heap.size, 0, none⟩ = some (.slice A0 x.funcs.length c0) ∧ W.cell? ⟨w.heap.size, 1, none⟩ = some (.slice A1 x.consts.length c1) ∧ W.cell? ⟨w.heap.size + 1, 0, none⟩ = some (.int .i64 y.acc) ∧ W.cell? ⟨w.heap.size + 1, 1, none⟩ = some (.slice B y.regs.length d)) [11] law.tab8 law.bits8 ⟨(((ML.out.drew)).box EbI.out 0).trans rfl, (((ML.out.drew)).box EbI.out 1).trans rfl, (((ML.out.drew)).box EbS.out 0).trans rfl, (((ML.out.drew)).box EbS.out 1).trans rfl⟩ (fun HT_ HW_ hHeld => ?_)
    have MD := Aside0.mk ML.out.drew
    skip
    refine pz 2 34 ?_; refine pz 3 35 ?_; refine tz 0 32 ?_; refine tz 4 36 ?_
    refine twz 1 10 (some 33) (some 10) (fun K hK => ?_) (fun K hK => ?_)
    · skip
      refine gz Try.func15 #[.agg #[.slice A0 x.funcs.length c0, .slice A1 x.consts.length c1]] ?_
      have C := toImageA x _ _ (MD.out.old HX.out) HLX.out
      refine C.mono ?_; clear C; rintro e w21 ⟨ds, rfl, hm, hb⟩
      obtain ⟨q2, d2, q3, d3, rfl, _, _, _, _⟩ := kImageI_open (kImageA_K _ x _ ▸ kImageA.K_of_M hm)
      have M21 := Aside0.mk (MD.out.push hb hm); clear hm hb
      refine ⟨_, rfl, ?_⟩
      refine hK.out _ _ ⟨(((M21.out).drop).box EbI.out 0).trans rfl, (((M21.out).drop).box EbI.out 1).trans rfl, (((M21.out).drop).box EbS.out 0).trans rfl, (((M21.out).drop).box EbS.out 1).trans rfl⟩ (fun hHeld => ?_); clear hK K; refine kz (some 33) ?_
      refine twz 5 10 (some 37) (some 10) (fun K hK => ?_) (fun K hK => ?_)
      · skip
        refine gz Try.func16 #[.agg #[.int .i64 y.acc, .slice B y.regs.length d]] ?_
        refine (toState y _ _ (M21.out.old HY.out) HLY.out).mono ?_; rintro e w22 ⟨ds, rfl, hm, hb⟩; obtain ⟨v, rfl, hr⟩ := kStateI_openM hm; obtain ⟨X3, y3, rfl⟩ := Kd.R_slice hr; clear hr
        have M22 := Aside0.mk (M21.out.push hb hm); clear hm hb
        refine ⟨_, rfl, ?_⟩
        refine hK.out _ _ ⟨(((M22.out).drop.drop).box EbI.out 0).trans rfl, (((M22.out).drop.drop).box EbI.out 1).trans rfl, (((M22.out).drop.drop).box EbS.out 0).trans rfl, (((M22.out).drop.drop).box EbS.out 1).trans rfl⟩ (fun hHeld => ?_); clear hK K; refine kz (some 37) ?_
        refine twz 6 10 (some 38) (some 10) (fun K hK => ?_) (fun K hK => ?_)
        · skip
          refine gz Try.func14 #[.agg #[.slice q2 x.funcs.length d2, .slice q3 x.consts.length d3], .int .i64 fn, .int .i64 at_, .agg #[.int .i64 y.acc, .slice X3 y.regs.length y3]] ?_
          obtain ⟨q2', d2', q3', d3', h, i0, j0, i1, j1⟩ := kImageI_open (kImageA_K _ x _ ▸ M22.out.read (.tail _ (.head _)))
          cases h
          have C := cStepFS x fn at_ y _ q2 d2 q3 d3 _ i0 j0 i1 j1 HN.out (M22.out.read (.head _)) HLY.out
          rw [← HR.out, ← HBQ.out] at C
          refine C.mono ?_; clear C i0 j0 i1 j1; rintro e w23 ⟨ds, rfl, hm, hb⟩; obtain ⟨v, rfl, hr⟩ := kStateI_openM hm; obtain ⟨X5, y5, rfl⟩ := Kd.R_slice hr; clear hr
          have M23 := Aside0.mk (M22.out.push hb hm); clear hm hb
          refine ⟨_, rfl, ?_⟩
          refine hK.out _ _ ⟨(((M23.out).drop.drop.drop).box EbI.out 0).trans rfl, (((M23.out).drop.drop.drop).box EbI.out 1).trans rfl, (((M23.out).drop.drop.drop).box EbS.out 0).trans rfl, (((M23.out).drop.drop.drop).box EbS.out 1).trans rfl⟩ (fun hHeld => ?_); clear hK K; refine kz (some 38) ?_
          refine pz 7 31 ?_; refine pz 8 39 ?_; refine pz 9 40 ?_
          refine ez 10 (some 10) (fun K hK => ?_)
          refine box_step ?hg (N := 10) ?hd (cs := #[.int .i64 0, .slice none 0 0]) (t := 31) ?hr ?_; (case hd => rfl); (case hg => rfl); (case hr => first | (go_simp; done) | (go_simp; rfl))
          intro gw hg w24 hbx hbb
          have M24 := Aside0.mk (Mem.boxed M23.out hg hbx hbb); clear hg hbx hbb
          refine hK.out _ _ ⟨(((M24.out).drop.drop.drop.drop).box EbI.out 0).trans rfl, (((M24.out).drop.drop.drop.drop).box EbI.out 1).trans rfl, (((M24.out).drop.drop.drop.drop).box EbS.out 0).trans rfl, (((M24.out).drop.drop.drop.drop).box EbS.out 1).trans rfl⟩ (fun hHeld => ?_); clear hK K; refine kz (some 10) ?_
          refine lz 11 none (fun K hK => ?_)
          have b0 := M24.out.box (.head _); have b1 := M24.out.free (.head _)
          refine skip_ (w1 := ?_) (by rfl) rfl ?_ ?_
          rotate_left
          · go_simp
            rfl
          clear b0 b1
          refine hK.out _ _ ?_; clear hK K
          refine pz 12 11 ?_
          refine dz ?_
          clear hHeld
          have MZ := Aside0.mk (Mem.sub (Mem.set (A := []) (Mem.set (A := []) M24.out 0 (.int .i64 r.acc) rfl) 1 (.slice X5 r.regs.length y5) rfl) (List.Sublist.cons_cons _ (List.Sublist.cons_cons _ (List.Sublist.cons _ (List.Sublist.cons _ (List.Sublist.refl L))))))
          try go_wp2_with fail
          go_meet
          exact ⟨_, _, _, _, _, _, rfl, rfl, ⟨rfl⟩, MZ⟩
        · skip
          refine box_step ?hg (N := 10) ?hd (cs := #[.int .i64 0, .slice none 0 0]) (t := 31) ?hr ?_; (case hd => rfl); (case hg => rfl); (case hr => first | (go_simp; done) | (go_simp; rfl))
          intro gw hg w26 hbx hbb
          have M26 := Aside0.mk (Mem.boxed M22.out hg hbx hbb); clear hg hbx hbb
          refine hK.out _ _ ⟨(((M26.out).drop.drop.drop).box EbI.out 0).trans rfl, (((M26.out).drop.drop.drop).box EbI.out 1).trans rfl, (((M26.out).drop.drop.drop).box EbS.out 0).trans rfl, (((M26.out).drop.drop.drop).box EbS.out 1).trans rfl⟩ (fun hHeld => ?_); clear hK K; refine kz (some 10) ?_
          refine ez 6 (some 38) (fun K hK => ?_)
          refine gz Try.func14 #[.agg #[.slice q2 x.funcs.length d2, .slice q3 x.consts.length d3], .int .i64 fn, .int .i64 at_, .agg #[.int .i64 y.acc, .slice X3 y.regs.length y3]] ?_
          obtain ⟨q2', d2', q3', d3', h, i0, j0, i1, j1⟩ := kImageI_open (kImageA_K _ x _ ▸ M26.out.read (.tail _ (.tail _ (.head _))))
          cases h
          have C := cStepFS x fn at_ y _ q2 d2 q3 d3 _ i0 j0 i1 j1 HN.out (M26.out.read (.tail _ (.head _))) HLY.out
          rw [← HR.out, ← HBQ.out] at C
          refine C.mono ?_; clear C i0 j0 i1 j1; rintro e w27 ⟨ds, rfl, hm, hb⟩; obtain ⟨v, rfl, hr⟩ := kStateI_openM hm; obtain ⟨X5, y5, rfl⟩ := Kd.R_slice hr; clear hr
          have M27 := Aside0.mk (M26.out.push hb hm); clear hm hb
          refine ⟨_, rfl, ?_⟩
          refine hK.out _ _ ⟨(((M27.out).drop.drop.drop.drop).box EbI.out 0).trans rfl, (((M27.out).drop.drop.drop.drop).box EbI.out 1).trans rfl, (((M27.out).drop.drop.drop.drop).box EbS.out 0).trans rfl, (((M27.out).drop.drop.drop.drop).box EbS.out 1).trans rfl⟩ (fun hHeld => ?_); clear hK K; refine kz (some 38) ?_
          refine pz 7 31 ?_; refine pz 8 39 ?_; refine pz 9 40 ?_
          refine lz 11 none (fun K hK => ?_)
          have b0 := M27.out.box (.tail _ (.head _)); have b1 := M27.out.free (.tail _ (.head _))
          refine skip_ (w1 := ?_) (by rfl) rfl ?_ ?_
          rotate_left
          · go_simp
            rfl
          clear b0 b1
          refine hK.out _ _ ?_; clear hK K
          refine pz 12 11 ?_
          refine dz ?_
          clear hHeld
          have MZ := Aside0.mk (Mem.sub (Mem.set (A := [_]) (Mem.set (A := [_]) M27.out 0 (.int .i64 r.acc) rfl) 1 (.slice X5 r.regs.length y5) rfl) (List.Sublist.cons_cons _ (List.Sublist.cons_cons _ (List.Sublist.cons _ (List.Sublist.cons _ (List.Sublist.refl L)))))).swap2
          try go_wp2_with fail
          go_meet
          exact ⟨_, _, _, _, _, _, rfl, rfl, ⟨rfl⟩, MZ⟩
      · skip
        refine box_step ?hg (N := 10) ?hd (cs := #[.int .i64 0, .slice none 0 0]) (t := 31) ?hr ?_; (case hd => rfl); (case hg => rfl); (case hr => first | (go_simp; done) | (go_simp; rfl))
        intro gw hg w29 hbx hbb
        have M29 := Aside0.mk (Mem.boxed M21.out hg hbx hbb); clear hg hbx hbb
        refine hK.out _ _ ⟨(((M29.out).drop.drop).box EbI.out 0).trans rfl, (((M29.out).drop.drop).box EbI.out 1).trans rfl, (((M29.out).drop.drop).box EbS.out 0).trans rfl, (((M29.out).drop.drop).box EbS.out 1).trans rfl⟩ (fun hHeld => ?_); clear hK K; refine kz (some 10) ?_
        refine ez 5 (some 37) (fun K hK => ?_)
        refine gz Try.func16 #[.agg #[.int .i64 y.acc, .slice B y.regs.length d]] ?_
        refine (toState y _ _ (M29.out.old HY.out) HLY.out).mono ?_; rintro e w30 ⟨ds, rfl, hm, hb⟩; obtain ⟨v, rfl, hr⟩ := kStateI_openM hm; obtain ⟨X3, y3, rfl⟩ := Kd.R_slice hr; clear hr
        have M30 := Aside0.mk (M29.out.push hb hm); clear hm hb
        refine ⟨_, rfl, ?_⟩
        refine hK.out _ _ ⟨(((M30.out).drop.drop.drop).box EbI.out 0).trans rfl, (((M30.out).drop.drop.drop).box EbI.out 1).trans rfl, (((M30.out).drop.drop.drop).box EbS.out 0).trans rfl, (((M30.out).drop.drop.drop).box EbS.out 1).trans rfl⟩ (fun hHeld => ?_); clear hK K; refine kz (some 37) ?_
        refine ez 6 (some 38) (fun K hK => ?_)
        refine gz Try.func14 #[.agg #[.slice q2 x.funcs.length d2, .slice q3 x.consts.length d3], .int .i64 fn, .int .i64 at_, .agg #[.int .i64 y.acc, .slice X3 y.regs.length y3]] ?_
        obtain ⟨q2', d2', q3', d3', h, i0, j0, i1, j1⟩ := kImageI_open (kImageA_K _ x _ ▸ M30.out.read (.tail _ (.tail _ (.head _))))
        cases h
        have C := cStepFS x fn at_ y _ q2 d2 q3 d3 _ i0 j0 i1 j1 HN.out (M30.out.read (.head _)) HLY.out
        rw [← HR.out, ← HBQ.out] at C
        refine C.mono ?_; clear C i0 j0 i1 j1; rintro e w31 ⟨ds, rfl, hm, hb⟩; obtain ⟨v, rfl, hr⟩ := kStateI_openM hm; obtain ⟨X5, y5, rfl⟩ := Kd.R_slice hr; clear hr
        have M31 := Aside0.mk (M30.out.push hb hm); clear hm hb
        refine ⟨_, rfl, ?_⟩
        refine hK.out _ _ ⟨(((M31.out).drop.drop.drop.drop).box EbI.out 0).trans rfl, (((M31.out).drop.drop.drop.drop).box EbI.out 1).trans rfl, (((M31.out).drop.drop.drop.drop).box EbS.out 0).trans rfl, (((M31.out).drop.drop.drop.drop).box EbS.out 1).trans rfl⟩ (fun hHeld => ?_); clear hK K; refine kz (some 38) ?_
        refine pz 7 31 ?_; refine pz 8 39 ?_; refine pz 9 40 ?_
        refine lz 11 none (fun K hK => ?_)
        have b0 := M31.out.box (.tail _ (.tail _ (.head _))); have b1 := M31.out.free (.tail _ (.tail _ (.head _)))
        refine skip_ (w1 := ?_) (by rfl) rfl ?_ ?_
        rotate_left
        · go_simp
          rfl
        clear b0 b1
        refine hK.out _ _ ?_; clear hK K
        refine pz 12 11 ?_
        refine dz ?_
        clear hHeld
        have MZ := Aside0.mk (Mem.sub (Mem.set (A := [_, _]) (Mem.set (A := [_, _]) M31.out 0 (.int .i64 r.acc) rfl) 1 (.slice X5 r.regs.length y5) rfl) (List.Sublist.cons_cons _ (List.Sublist.cons _ (List.Sublist.cons_cons _ (List.Sublist.cons _ (List.Sublist.refl L)))))).swap2
        try go_wp2_with fail
        go_meet
        exact ⟨_, _, _, _, _, _, rfl, rfl, ⟨rfl⟩, MZ⟩
    · skip
      refine box_step ?hg (N := 10) ?hd (cs := #[.int .i64 0, .slice none 0 0]) (t := 31) ?hr ?_; (case hd => rfl); (case hg => rfl); (case hr => first | (go_simp; done) | (go_simp; rfl))
      intro gw hg w33 hbx hbb
      have M33 := Aside0.mk (Mem.boxed MD.out hg hbx hbb); clear hg hbx hbb
      refine hK.out _ _ ⟨(((M33.out).drop).box EbI.out 0).trans rfl, (((M33.out).drop).box EbI.out 1).trans rfl, (((M33.out).drop).box EbS.out 0).trans rfl, (((M33.out).drop).box EbS.out 1).trans rfl⟩ (fun hHeld => ?_); clear hK K; refine kz (some 10) ?_
      refine ez 1 (some 33) (fun K hK => ?_)
      refine gz Try.func15 #[.agg #[.slice A0 x.funcs.length c0, .slice A1 x.consts.length c1]] ?_
      have C := toImageA x _ _ (M33.out.old HX.out) HLX.out
      refine C.mono ?_; clear C; rintro e w34 ⟨ds, rfl, hm, hb⟩
      obtain ⟨q2, d2, q3, d3, rfl, _, _, _, _⟩ := kImageI_open (kImageA_K _ x _ ▸ kImageA.K_of_M hm)
      have M34 := Aside0.mk (M33.out.push hb hm); clear hm hb
      refine ⟨_, rfl, ?_⟩
      refine hK.out _ _ ⟨(((M34.out).drop.drop).box EbI.out 0).trans rfl, (((M34.out).drop.drop).box EbI.out 1).trans rfl, (((M34.out).drop.drop).box EbS.out 0).trans rfl, (((M34.out).drop.drop).box EbS.out 1).trans rfl⟩ (fun hHeld => ?_); clear hK K; refine kz (some 33) ?_
      refine ez 5 (some 37) (fun K hK => ?_)
      refine gz Try.func16 #[.agg #[.int .i64 y.acc, .slice B y.regs.length d]] ?_
      refine (toState y _ _ (M34.out.old HY.out) HLY.out).mono ?_; rintro e w35 ⟨ds, rfl, hm, hb⟩; obtain ⟨v, rfl, hr⟩ := kStateI_openM hm; obtain ⟨X3, y3, rfl⟩ := Kd.R_slice hr; clear hr
      have M35 := Aside0.mk (M34.out.push hb hm); clear hm hb
      refine ⟨_, rfl, ?_⟩
      refine hK.out _ _ ⟨(((M35.out).drop.drop.drop).box EbI.out 0).trans rfl, (((M35.out).drop.drop.drop).box EbI.out 1).trans rfl, (((M35.out).drop.drop.drop).box EbS.out 0).trans rfl, (((M35.out).drop.drop.drop).box EbS.out 1).trans rfl⟩ (fun hHeld => ?_); clear hK K; refine kz (some 37) ?_
      refine ez 6 (some 38) (fun K hK => ?_)
      refine gz Try.func14 #[.agg #[.slice q2 x.funcs.length d2, .slice q3 x.consts.length d3], .int .i64 fn, .int .i64 at_, .agg #[.int .i64 y.acc, .slice X3 y.regs.length y3]] ?_
      obtain ⟨q2', d2', q3', d3', h, i0, j0, i1, j1⟩ := kImageI_open (kImageA_K _ x _ ▸ M35.out.read (.tail _ (.head _)))
      cases h
      have C := cStepFS x fn at_ y _ q2 d2 q3 d3 _ i0 j0 i1 j1 HN.out (M35.out.read (.head _)) HLY.out
      rw [← HR.out, ← HBQ.out] at C
      refine C.mono ?_; clear C i0 j0 i1 j1; rintro e w36 ⟨ds, rfl, hm, hb⟩; obtain ⟨v, rfl, hr⟩ := kStateI_openM hm; obtain ⟨X5, y5, rfl⟩ := Kd.R_slice hr; clear hr
      have M36 := Aside0.mk (M35.out.push hb hm); clear hm hb
      refine ⟨_, rfl, ?_⟩
      refine hK.out _ _ ⟨(((M36.out).drop.drop.drop.drop).box EbI.out 0).trans rfl, (((M36.out).drop.drop.drop.drop).box EbI.out 1).trans rfl, (((M36.out).drop.drop.drop.drop).box EbS.out 0).trans rfl, (((M36.out).drop.drop.drop.drop).box EbS.out 1).trans rfl⟩ (fun hHeld => ?_); clear hK K; refine kz (some 38) ?_
      refine pz 7 31 ?_; refine pz 8 39 ?_; refine pz 9 40 ?_
      refine lz 11 none (fun K hK => ?_)
      have b0 := M36.out.box (.tail _ (.tail _ (.tail _ (.head _)))); have b1 := M36.out.free (.tail _ (.tail _ (.tail _ (.head _))))
      refine skip_ (w1 := ?_) (by rfl) rfl ?_ ?_
      rotate_left
      · go_simp
        rfl
      clear b0 b1
      refine hK.out _ _ ?_; clear hK K
      refine pz 12 11 ?_
      refine dz ?_
      clear hHeld
      have MZ := Aside0.mk (Mem.sub (Mem.set (A := [_, _, _]) (Mem.set (A := [_, _, _]) M36.out 0 (.int .i64 r.acc) rfl) 1 (.slice X5 r.regs.length y5) rfl) (List.Sublist.cons_cons _ (List.Sublist.cons _ (List.Sublist.cons _ (List.Sublist.cons_cons _ (List.Sublist.refl L)))))).swap2
      try go_wp2_with fail
      go_meet
      exact ⟨_, _, _, _, _, _, rfl, rfl, ⟨rfl⟩, MZ⟩
  case rest =>
  clear ML
  obtain ⟨Gw, low, hiw, Xw, Yw, Ww, rfl, rfl, HW, Mw⟩ := hcut
  have hw3 := HW.out; subst hw3; clear HW
  have hl := HL.out; subst hl; clear HL EbI EbS
  have z_bI := Mw.out.box (.tail _ (.tail _ (.tail _ (.head _))))
  go_wp2_with fail
  clear z_bI
  refine (toImageA x _ _ (Mw.out.old HX.out) HLX.out).mono ?_; rintro e w38 ⟨ds, rfl, hm, hb⟩; obtain ⟨qx, dx, qz, dz_, rfl, _, _, _, _⟩ := kImageI_open (kImageA_K _ x _ ▸ kImageA.K_of_M hm)
  have N38 := Aside0.mk (Mw.out.push hb hm); clear hm hb Mw
  have M38 := Aside0.mk (N38.out.allocAt rfl #[.slice qx x.funcs.length dx, .slice qz x.consts.length dz_] 37); clear N38
  have z_bS := M38.out.box (.tail _ (.tail _ (.tail _ (.tail _ (.head _)))))
  go_wp2_with fail
  clear z_bS
  refine (toState y _ _ (M38.out.old HY.out) HLY.out).mono ?_; rintro e w39 ⟨ds, rfl, hm, hb⟩; obtain ⟨v, rfl, hr⟩ := kStateI_openM hm; obtain ⟨Xs, ys, rfl⟩ := Kd.R_slice hr; clear hr
  have N39 := Aside0.mk (M38.out.push hb hm); clear hm hb M38
  have M39 := Aside0.mk (N39.out.allocAt rfl #[.int .i64 y.acc, .slice Xs y.regs.length ys] 31); clear N39
  have z_bx := M39.out.box (.tail _ (.tail _ (.head _))); have z_by := M39.out.box (.head _)
  go_wp2_with fail
  clear z_bx z_by
  obtain ⟨q2', d2', q3', d3', h, i0, j0, i1, j1⟩ := kImageI_open (kImageA_K _ x _ ▸ M39.out.read (.tail _ (.tail _ (.tail _ (.head _)))))
  cases h
  have C := cStepFI x fn at_ y _ qx dx qz dz_ _ i0 j0 i1 j1 HN.out (M39.out.read (.tail _ (.head _))) HLY.out
  rw [← HR.out, ← HBQ.out] at C
  refine C.mono ?_; clear C i0 j0 i1 j1; rintro e w40 ⟨ds, rfl, hm, hb⟩; obtain ⟨v, rfl, hr⟩ := kStateI_openM hm; obtain ⟨Xg, yg, rfl⟩ := Kd.R_slice hr; clear hr
  have N40 := Aside0.mk (M39.out.push hb hm); clear hm hb M39
  have M40 := Aside0.mk (N40.out.allocAt rfl #[.int .i64 r.acc, .slice Xg r.regs.length yg] 31); clear N40
  have z_bg := M40.out.box (.head _); have z_bw := M40.out.box (.tail _ (.tail _ (.tail _ (.tail _ (.tail _ (.tail _ (.head _)))))))
  go_wp2_with fail
  clear z_bg z_bw
  have C := eqState r r _ _ _ (M40.out.read (.tail _ (.head _))) (M40.out.read (.tail _ (.tail _ (.tail _ (.tail _ (.tail _ (.tail _ (.tail _ (.head _)))))))))
  rw [decide_eq_true rfl] at C
  refine C.mono ?_; clear C; rintro e w41 ⟨rfl, hb⟩
  have M41 := Aside0.mk (M40.out.step hb); clear hb M40
  go_upto_region 14 with fail
  have RX := Aside0.mk (M41.out.read (.tail _ (.tail _ (.tail _ (.tail _ (.tail _ (.head _)))))))
  obtain ⟨L, HL, ML⟩ := Mem.hide M41
  have Ebx := Aside0.mk (show (Hold.box w38.heap.size #[.slice qx x.funcs.length dx, .slice qz x.consts.length dz_] 37) ∈ L from HL.out ▸ (.tail _ (.tail _ (.tail _ (.tail _ (.head _))))))
  have EbI := Aside0.mk (show (Hold.box w.heap.size #[.slice A0 x.funcs.length c0, .slice A1 x.consts.length c1] 25) ∈ L from HL.out ▸ (.tail _ (.tail _ (.tail _ (.tail _ (.tail _ (.tail _ (.tail _ (.tail _ (.tail _ (.head _)))))))))))
  clear M41
  refine sz 5 (fun W => W.cell? ⟨w38.heap.size, 0, none⟩ = some (.slice qx x.funcs.length dx) ∧ W.cell? ⟨w38.heap.size, 1, none⟩ = some (.slice qz x.consts.length dz_) ∧ W.cell? ⟨w.heap.size, 0, none⟩ = some (.slice A0 x.funcs.length c0) ∧ W.cell? ⟨w.heap.size, 1, none⟩ = some (.slice A1 x.consts.length c1)) [] law.tab14 law.bits14 ⟨(((ML.out.drew)).box Ebx.out 0).trans rfl, (((ML.out.drew)).box Ebx.out 1).trans rfl, (((ML.out.drew)).box EbI.out 0).trans rfl, (((ML.out.drew)).box EbI.out 1).trans rfl⟩ (fun HT_ HW_ hHeld => ?_)
  have MD := Aside0.mk ML.out.drew
  refine tz 0 62 ?_; refine tz 1 63 ?_
  refine ez 2 (some 64) (fun K hK => ?_)
  refine gz Try.func15 #[.agg #[.slice A0 x.funcs.length c0, .slice A1 x.consts.length c1]] ?_
  have C := toImageA x _ _ (MD.out.old HX.out) HLX.out
  refine C.mono ?_; clear C; rintro e w42 ⟨ds, rfl, hm, hb⟩
  obtain ⟨q2, d2, q3, d3, rfl, _, _, _, _⟩ := kImageI_open (kImageA_K _ x _ ▸ kImageA.K_of_M hm)
  have N42 := Aside0.mk (MD.out.push hb hm); have RX2 := Aside0.mk (kImageA.K_below (below_step (below_drew1 (Below.refl _ _)) hb) RX.out); clear hm hb
  refine ⟨_, rfl, ?_⟩
  refine hK.out _ _ ⟨(((N42.out).drop).box Ebx.out 0).trans rfl, (((N42.out).drop).box Ebx.out 1).trans rfl, (((N42.out).drop).box EbI.out 0).trans rfl, (((N42.out).drop).box EbI.out 1).trans rfl⟩ (fun hHeld => ?_); clear hK K; refine kz (some 64) ?_
  refine ez 3 (some 65) (fun K hK => ?_)
  refine gz Try.func19 #[.agg #[.slice qx x.funcs.length dx, .slice qz x.consts.length dz_], .agg #[.slice q2 x.funcs.length d2, .slice q3 x.consts.length d3]] ?_
  have C := eqImage x x _ _ _ (kImageA_K _ x _ ▸ RX2.out) (kImageA_K _ x _ ▸ N42.out.read (.head _)); rw [decide_eq_true rfl] at C; refine C.mono ?_; clear C; rintro e w43 ⟨rfl, hb⟩; have M43 := Aside0.mk ((N42.out.step hb).drop); clear hb
  refine ⟨_, rfl, ?_⟩
  refine hK.out _ _ ⟨(((M43.out)).box Ebx.out 0).trans rfl, (((M43.out)).box Ebx.out 1).trans rfl, (((M43.out)).box EbI.out 0).trans rfl, (((M43.out)).box EbI.out 1).trans rfl⟩ (fun hHeld => ?_); clear hK K; refine kz (some 65) ?_
  refine pz 4 66 ?_
  refine dz ?_
  clear hHeld ML RX RX2 N42 MD HT_ HW_
  have hl := HL.out; subst hl; clear HL Ebx EbI
  go_upto_region 16 with fail
  have RX := Aside0.mk (M43.out.read (.tail _ (.tail _ (.tail _ (.head _)))))
  obtain ⟨L, HL, ML⟩ := Mem.hide M43
  have Eby := Aside0.mk (show (Hold.box w39.heap.size #[.int .i64 y.acc, .slice Xs y.regs.length ys] 31) ∈ L from HL.out ▸ (.tail _ (.tail _ (.head _))))
  have EbS := Aside0.mk (show (Hold.box (w.heap.size + 1) #[.int .i64 y.acc, .slice B y.regs.length d] 28) ∈ L from HL.out ▸ (.tail _ (.tail _ (.tail _ (.tail _ (.tail _ (.tail _ (.tail _ (.tail _ (.head _))))))))))
  clear M43
  refine sz 5 (fun W => W.cell? ⟨w39.heap.size, 0, none⟩ = some (.int .i64 y.acc) ∧ W.cell? ⟨w39.heap.size, 1, none⟩ = some (.slice Xs y.regs.length ys) ∧ W.cell? ⟨w.heap.size + 1, 0, none⟩ = some (.int .i64 y.acc) ∧ W.cell? ⟨w.heap.size + 1, 1, none⟩ = some (.slice B y.regs.length d)) [] law.tab16 law.bits16 ⟨(((ML.out.drew)).box Eby.out 0).trans rfl, (((ML.out.drew)).box Eby.out 1).trans rfl, (((ML.out.drew)).box EbS.out 0).trans rfl, (((ML.out.drew)).box EbS.out 1).trans rfl⟩ (fun HT_ HW_ hHeld => ?_)
  have MD := Aside0.mk ML.out.drew
  refine tz 0 67 ?_; refine tz 1 68 ?_
  refine ez 2 (some 69) (fun K hK => ?_)
  refine gz Try.func16 #[.agg #[.int .i64 y.acc, .slice B y.regs.length d]] ?_
  refine (toState y _ _ (MD.out.old HY.out) HLY.out).mono ?_; rintro e w44 ⟨ds, rfl, hm, hb⟩; obtain ⟨v, rfl, hr⟩ := kStateI_openM hm; obtain ⟨X3, y3, rfl⟩ := Kd.R_slice hr; clear hr
  have N44 := Aside0.mk (MD.out.push hb hm); have RX2 := Aside0.mk (kStateI.K_below (below_step (below_drew1 (Below.refl _ _)) hb) RX.out); clear hm hb
  refine ⟨_, rfl, ?_⟩
  refine hK.out _ _ ⟨(((N44.out).drop).box Eby.out 0).trans rfl, (((N44.out).drop).box Eby.out 1).trans rfl, (((N44.out).drop).box EbS.out 0).trans rfl, (((N44.out).drop).box EbS.out 1).trans rfl⟩ (fun hHeld => ?_); clear hK K; refine kz (some 69) ?_
  refine ez 3 (some 70) (fun K hK => ?_)
  refine gz Try.func18 #[.agg #[.int .i64 y.acc, .slice Xs y.regs.length ys], .agg #[.int .i64 y.acc, .slice X3 y.regs.length y3]] ?_
  have C := eqState y y _ _ _ RX2.out (N44.out.read (.head _)); rw [decide_eq_true rfl] at C; refine C.mono ?_; clear C; rintro e w45 ⟨rfl, hb⟩; have M45 := Aside0.mk ((N44.out.step hb).drop); clear hb
  refine ⟨_, rfl, ?_⟩
  refine hK.out _ _ ⟨(((M45.out)).box Eby.out 0).trans rfl, (((M45.out)).box Eby.out 1).trans rfl, (((M45.out)).box EbS.out 0).trans rfl, (((M45.out)).box EbS.out 1).trans rfl⟩ (fun hHeld => ?_); clear hK K; refine kz (some 70) ?_
  refine pz 4 71 ?_
  refine dz ?_
  clear hHeld ML RX RX2 N44 MD HT_ HW_
  have hl := HL.out; subst hl; clear HL Eby EbS
  obtain ⟨k1, hk1⟩ : ∃ k1 : Int, k1 = 1 + (cntFuncs x.funcs : Int) + 3 * (x.consts.length : Int) := ⟨_, rfl⟩
  have hkb : 0 ≤ k1 ∧ k1 ≤ 17592186044416 := by
    have h1 := cnt_big HLX.out.2.1; have h2 := HLX.out.1; have h3 := HLX.out.2.2
    have h4 : x.funcs.length * 8388610 ≤ 1048576 * 8388610 := Nat.mul_le_mul_right _ h2
    omega
  have HK1 := Aside0.mk hk1; clear hk1
  have z_bx := M45.out.box (.tail _ (.tail _ (.tail _ (.tail _ (.head _)))))
  go_wp2_with fail
  clear z_bx
  have hv := M45.out.val (.tail _ (.tail _ (.tail _ (.tail _ (.tail _ (.head _)))))); have hf := M45.out.fits _ (.tail _ (.tail _ (.tail _ (.tail _ (.tail _ (.head _))))))
  have C := markImage x _ 1 w _ _ _ M45.out.below hf.1 (fun b hb => Nat.lt_of_lt_of_le hb.2 hf.2) hv (by omega) (by have := HK1.out; omega) HLX.out.1; clear hv hf
  rw [← HK1.out] at C
  refine C.mono ?_; clear C; rintro e w46 ⟨rfl, hv, hb, hk⟩
  have M46 := Aside0.mk (Mem.mark (A := [_, _, _, _, _]) M45.out hb hk hv); clear hv hb hk M45
  have z_by := M46.out.box (.tail _ (.tail _ (.head _)))
  go_wp2_with fail
  clear z_by
  have hv := M46.out.val (.tail _ (.tail _ (.tail _ (.head _)))); have hf := M46.out.fits _ (.tail _ (.tail _ (.tail _ (.head _))))
  refine (markState y _ k1 w _ _ _ M46.out.below hf.1 (fun b hb => Nat.lt_of_lt_of_le hb.2 hf.2) hv (by have h2 := HLY.out; have h3 := HJ.out; omega) (by have h2 := HLY.out; have h3 := HJ.out; omega)).mono ?_; clear hv hf
  rintro e w47 ⟨rfl, hv, hb, hk⟩
  have M47 := Aside0.mk (Mem.mark (A := [_, _, _]) M46.out hb hk hv); clear hv hb hk M46
  have gk : decide (k1 + (y.regs.length : Int) < 0) = false := by simp; omega
  have z_bg := M47.out.box (.head _); have z_bw := M47.out.box (.tail _ (.tail _ (.tail _ (.tail _ (.tail _ (.tail _ (.head _)))))))
  go_wp2_with fail
  clear z_bg z_bw
  have C := eqState r r _ _ _ (M47.out.read (.tail _ (.head _))) (M47.out.read (.tail _ (.tail _ (.tail _ (.tail _ (.tail _ (.tail _ (.tail _ (.head _)))))))))
  rw [decide_eq_true rfl] at C
  refine C.mono ?_; clear C; rintro e w48 ⟨rfl, hb⟩
  have M48 := Aside0.mk (M47.out.step hb); clear hb M47
  clear gk
  have z_bg := M48.out.box (.head _)
  go_wp2_with fail
  clear z_bg
  have hv := M48.out.val (.tail _ (.head _)); have hf := M48.out.fits _ (.tail _ (.head _))
  refine (markState r _ 1 w _ _ _ M48.out.below hf.1 (fun b hb => Nat.lt_of_lt_of_le hb.2 hf.2) hv (by have h2 := HLY.out; have h3 := HJ.out; omega) (by have h2 := HLY.out; have h3 := HJ.out; omega)).mono ?_; clear hv hf
  rintro e w49 ⟨rfl, hv, hb, hk⟩
  have M49 := Aside0.mk (Mem.mark (A := [_]) M48.out hb hk hv); clear hv hb hk M48
  have z_bg := M49.out.box (.head _)
  go_wp2_with fail
  clear z_bg
  have C := heldState ⟨r.acc, marks 1 r.regs.length⟩ _ r.regs.length 1 _ (M49.out.read (.tail _ (.head _))) rfl (by omega) (by show 1 + ((marks 1 r.regs.length).length : Int) ≤ _; rw [marks_len]; have h3 := HJ.out; omega)
  simp only [marks_len] at C
  refine C.mono ?_; clear C; rintro e w50 ⟨rfl, hb⟩
  have M50 := Aside0.mk (M49.out.step hb); clear hb M49
  have gq : decide (1 + (r.regs.length : Int) < 0) = false := by simp; omega
  have gn : (1 + (r.regs.length : Int) != 1 + (r.regs.length : Int)) = false := by simp
  go_upto_region 31 with fail
  obtain ⟨L, HL, ML⟩ := Mem.hide M50
  have EbI := Aside0.mk (show (Hold.box w.heap.size #[.slice A0 x.funcs.length c0, .slice A1 x.consts.length c1] 25) ∈ L from HL.out ▸ (.tail _ (.tail _ (.tail _ (.tail _ (.tail _ (.tail _ (.tail _ (.tail _ (.tail _ (.head _)))))))))))
  have EbS := Aside0.mk (show (Hold.box (w.heap.size + 1) #[.int .i64 y.acc, .slice B y.regs.length d] 28) ∈ L from HL.out ▸ (.tail _ (.tail _ (.tail _ (.tail _ (.tail _ (.tail _ (.tail _ (.tail _ (.head _))))))))))
  clear M50
  go_cut [19, 20] (fun sl s2 wx => ∃ (g lo hi : Nat) (X : Option Addr) (Y : Nat) (W : World), sl = .pointer (some ⟨g, 0, none⟩) ∧ s2 = .bool b ∧ Aside0 (W = wx) ∧ Aside0 (Mem w W ((Hold.box g #[.int .i64 r.acc, .slice X r.regs.length Y] 31) :: (Hold.val kStateI lo hi r [.int .i64 r.acc, .slice X r.regs.length Y]) :: L)))
  case first =>
    refine sz 13 (fun W => W.cell? ⟨w.heap.size, 0, none⟩ = some (.slice A0 x.funcs.length c0) ∧ W.cell? ⟨w.heap.size, 1, none⟩ = some (.slice A1 x.consts.length c1) ∧ W.cell? ⟨w.heap.size + 1, 0, none⟩ = some (.int .i64 y.acc) ∧ W.cell? ⟨w.heap.size + 1, 1, none⟩ = some (.slice B y.regs.length d)) [11] law.tab31 law.bits31 ⟨(((ML.out.drew)).box EbI.out 0).trans rfl, (((ML.out.drew)).box EbI.out 1).trans rfl, (((ML.out.drew)).box EbS.out 0).trans rfl, (((ML.out.drew)).box EbS.out 1).trans rfl⟩ (fun HT_ HW_ hHeld => ?_)
    have MD := Aside0.mk ML.out.drew
    skip
    refine pz 2 105 ?_; refine pz 3 106 ?_; refine tz 0 103 ?_; refine tz 4 107 ?_
    refine twz 1 10 (some 104) (some 19) (fun K hK => ?_) (fun K hK => ?_)
    · skip
      refine gz Try.func15 #[.agg #[.slice A0 x.funcs.length c0, .slice A1 x.consts.length c1]] ?_
      have C := toImageA x _ _ (MD.out.old HX.out) HLX.out
      refine C.mono ?_; clear C; rintro e w51 ⟨ds, rfl, hm, hb⟩
      obtain ⟨q2, d2, q3, d3, rfl, _, _, _, _⟩ := kImageI_open (kImageA_K _ x _ ▸ kImageA.K_of_M hm)
      have M51 := Aside0.mk (MD.out.push hb hm); clear hm hb
      refine ⟨_, rfl, ?_⟩
      refine hK.out _ _ ⟨(((M51.out).drop).box EbI.out 0).trans rfl, (((M51.out).drop).box EbI.out 1).trans rfl, (((M51.out).drop).box EbS.out 0).trans rfl, (((M51.out).drop).box EbS.out 1).trans rfl⟩ (fun hHeld => ?_); clear hK K; refine kz (some 104) ?_
      refine twz 5 10 (some 108) (some 19) (fun K hK => ?_) (fun K hK => ?_)
      · skip
        refine gz Try.func16 #[.agg #[.int .i64 y.acc, .slice B y.regs.length d]] ?_
        refine (toState y _ _ (M51.out.old HY.out) HLY.out).mono ?_; rintro e w52 ⟨ds, rfl, hm, hb⟩; obtain ⟨v, rfl, hr⟩ := kStateI_openM hm; obtain ⟨X3, y3, rfl⟩ := Kd.R_slice hr; clear hr
        have M52 := Aside0.mk (M51.out.push hb hm); clear hm hb
        refine ⟨_, rfl, ?_⟩
        refine hK.out _ _ ⟨(((M52.out).drop.drop).box EbI.out 0).trans rfl, (((M52.out).drop.drop).box EbI.out 1).trans rfl, (((M52.out).drop.drop).box EbS.out 0).trans rfl, (((M52.out).drop.drop).box EbS.out 1).trans rfl⟩ (fun hHeld => ?_); clear hK K; refine kz (some 108) ?_
        refine twz 6 10 (some 109) (some 19) (fun K hK => ?_) (fun K hK => ?_)
        · skip
          refine gz Try.func17 #[.agg #[.slice q2 x.funcs.length d2, .slice q3 x.consts.length d3], .int .i64 fn, .int .i64 at_, .agg #[.int .i64 y.acc, .slice X3 y.regs.length y3]] ?_
          obtain ⟨q2', d2', q3', d3', h, i0, j0, i1, j1⟩ := kImageI_open (kImageA_K _ x _ ▸ M52.out.read (.tail _ (.head _)))
          cases h
          have C := cStepFI x fn at_ y _ q2 d2 q3 d3 _ i0 j0 i1 j1 HN.out (M52.out.read (.head _)) HLY.out
          rw [← HR.out, ← HBQ.out] at C
          refine C.mono ?_; clear C i0 j0 i1 j1; rintro e w53 ⟨ds, rfl, hm, hb⟩; obtain ⟨v, rfl, hr⟩ := kStateI_openM hm; obtain ⟨X5, y5, rfl⟩ := Kd.R_slice hr; clear hr
          have M53 := Aside0.mk (M52.out.push hb hm); clear hm hb
          refine ⟨_, rfl, ?_⟩
          refine hK.out _ _ ⟨(((M53.out).drop.drop.drop).box EbI.out 0).trans rfl, (((M53.out).drop.drop.drop).box EbI.out 1).trans rfl, (((M53.out).drop.drop.drop).box EbS.out 0).trans rfl, (((M53.out).drop.drop.drop).box EbS.out 1).trans rfl⟩ (fun hHeld => ?_); clear hK K; refine kz (some 109) ?_
          refine pz 7 102 ?_; refine pz 8 110 ?_; refine pz 9 111 ?_
          refine ez 10 (some 19) (fun K hK => ?_)
          refine box_step ?hg (N := 19) ?hd (cs := #[.int .i64 0, .slice none 0 0]) (t := 31) ?hr ?_; (case hd => rfl); (case hg => rfl); (case hr => first | (go_simp; done) | (go_simp; rfl))
          intro gh hg w54 hbx hbb
          have M54 := Aside0.mk (Mem.boxed M53.out hg hbx hbb); clear hg hbx hbb
          refine hK.out _ _ ⟨(((M54.out).drop.drop.drop.drop).box EbI.out 0).trans rfl, (((M54.out).drop.drop.drop.drop).box EbI.out 1).trans rfl, (((M54.out).drop.drop.drop.drop).box EbS.out 0).trans rfl, (((M54.out).drop.drop.drop.drop).box EbS.out 1).trans rfl⟩ (fun hHeld => ?_); clear hK K; refine kz (some 19) ?_
          refine lz 11 none (fun K hK => ?_)
          have b0 := M54.out.box (.head _); have b1 := M54.out.free (.head _)
          refine skip_ (w1 := ?_) (by rfl) rfl ?_ ?_
          rotate_left
          · go_simp
            rfl
          clear b0 b1
          refine hK.out _ _ ?_; clear hK K
          refine pz 12 20 ?_
          refine dz ?_
          clear hHeld
          have MZ := Aside0.mk (Mem.sub (Mem.set (A := []) (Mem.set (A := []) M54.out 0 (.int .i64 r.acc) rfl) 1 (.slice X5 r.regs.length y5) rfl) (List.Sublist.cons_cons _ (List.Sublist.cons_cons _ (List.Sublist.cons _ (List.Sublist.cons _ (List.Sublist.refl L))))))
          try go_wp2_with fail
          go_meet
          exact ⟨_, _, _, _, _, _, rfl, rfl, ⟨rfl⟩, MZ⟩
        · skip
          refine box_step ?hg (N := 19) ?hd (cs := #[.int .i64 0, .slice none 0 0]) (t := 31) ?hr ?_; (case hd => rfl); (case hg => rfl); (case hr => first | (go_simp; done) | (go_simp; rfl))
          intro gh hg w56 hbx hbb
          have M56 := Aside0.mk (Mem.boxed M52.out hg hbx hbb); clear hg hbx hbb
          refine hK.out _ _ ⟨(((M56.out).drop.drop.drop).box EbI.out 0).trans rfl, (((M56.out).drop.drop.drop).box EbI.out 1).trans rfl, (((M56.out).drop.drop.drop).box EbS.out 0).trans rfl, (((M56.out).drop.drop.drop).box EbS.out 1).trans rfl⟩ (fun hHeld => ?_); clear hK K; refine kz (some 19) ?_
          refine ez 6 (some 109) (fun K hK => ?_)
          refine gz Try.func17 #[.agg #[.slice q2 x.funcs.length d2, .slice q3 x.consts.length d3], .int .i64 fn, .int .i64 at_, .agg #[.int .i64 y.acc, .slice X3 y.regs.length y3]] ?_
          obtain ⟨q2', d2', q3', d3', h, i0, j0, i1, j1⟩ := kImageI_open (kImageA_K _ x _ ▸ M56.out.read (.tail _ (.tail _ (.head _))))
          cases h
          have C := cStepFI x fn at_ y _ q2 d2 q3 d3 _ i0 j0 i1 j1 HN.out (M56.out.read (.tail _ (.head _))) HLY.out
          rw [← HR.out, ← HBQ.out] at C
          refine C.mono ?_; clear C i0 j0 i1 j1; rintro e w57 ⟨ds, rfl, hm, hb⟩; obtain ⟨v, rfl, hr⟩ := kStateI_openM hm; obtain ⟨X5, y5, rfl⟩ := Kd.R_slice hr; clear hr
          have M57 := Aside0.mk (M56.out.push hb hm); clear hm hb
          refine ⟨_, rfl, ?_⟩
          refine hK.out _ _ ⟨(((M57.out).drop.drop.drop.drop).box EbI.out 0).trans rfl, (((M57.out).drop.drop.drop.drop).box EbI.out 1).trans rfl, (((M57.out).drop.drop.drop.drop).box EbS.out 0).trans rfl, (((M57.out).drop.drop.drop.drop).box EbS.out 1).trans rfl⟩ (fun hHeld => ?_); clear hK K; refine kz (some 109) ?_
          refine pz 7 102 ?_; refine pz 8 110 ?_; refine pz 9 111 ?_
          refine lz 11 none (fun K hK => ?_)
          have b0 := M57.out.box (.tail _ (.head _)); have b1 := M57.out.free (.tail _ (.head _))
          refine skip_ (w1 := ?_) (by rfl) rfl ?_ ?_
          rotate_left
          · go_simp
            rfl
          clear b0 b1
          refine hK.out _ _ ?_; clear hK K
          refine pz 12 20 ?_
          refine dz ?_
          clear hHeld
          have MZ := Aside0.mk (Mem.sub (Mem.set (A := [_]) (Mem.set (A := [_]) M57.out 0 (.int .i64 r.acc) rfl) 1 (.slice X5 r.regs.length y5) rfl) (List.Sublist.cons_cons _ (List.Sublist.cons_cons _ (List.Sublist.cons _ (List.Sublist.cons _ (List.Sublist.refl L)))))).swap2
          try go_wp2_with fail
          go_meet
          exact ⟨_, _, _, _, _, _, rfl, rfl, ⟨rfl⟩, MZ⟩
      · skip
        refine box_step ?hg (N := 19) ?hd (cs := #[.int .i64 0, .slice none 0 0]) (t := 31) ?hr ?_; (case hd => rfl); (case hg => rfl); (case hr => first | (go_simp; done) | (go_simp; rfl))
        intro gh hg w59 hbx hbb
        have M59 := Aside0.mk (Mem.boxed M51.out hg hbx hbb); clear hg hbx hbb
        refine hK.out _ _ ⟨(((M59.out).drop.drop).box EbI.out 0).trans rfl, (((M59.out).drop.drop).box EbI.out 1).trans rfl, (((M59.out).drop.drop).box EbS.out 0).trans rfl, (((M59.out).drop.drop).box EbS.out 1).trans rfl⟩ (fun hHeld => ?_); clear hK K; refine kz (some 19) ?_
        refine ez 5 (some 108) (fun K hK => ?_)
        refine gz Try.func16 #[.agg #[.int .i64 y.acc, .slice B y.regs.length d]] ?_
        refine (toState y _ _ (M59.out.old HY.out) HLY.out).mono ?_; rintro e w60 ⟨ds, rfl, hm, hb⟩; obtain ⟨v, rfl, hr⟩ := kStateI_openM hm; obtain ⟨X3, y3, rfl⟩ := Kd.R_slice hr; clear hr
        have M60 := Aside0.mk (M59.out.push hb hm); clear hm hb
        refine ⟨_, rfl, ?_⟩
        refine hK.out _ _ ⟨(((M60.out).drop.drop.drop).box EbI.out 0).trans rfl, (((M60.out).drop.drop.drop).box EbI.out 1).trans rfl, (((M60.out).drop.drop.drop).box EbS.out 0).trans rfl, (((M60.out).drop.drop.drop).box EbS.out 1).trans rfl⟩ (fun hHeld => ?_); clear hK K; refine kz (some 108) ?_
        refine ez 6 (some 109) (fun K hK => ?_)
        refine gz Try.func17 #[.agg #[.slice q2 x.funcs.length d2, .slice q3 x.consts.length d3], .int .i64 fn, .int .i64 at_, .agg #[.int .i64 y.acc, .slice X3 y.regs.length y3]] ?_
        obtain ⟨q2', d2', q3', d3', h, i0, j0, i1, j1⟩ := kImageI_open (kImageA_K _ x _ ▸ M60.out.read (.tail _ (.tail _ (.head _))))
        cases h
        have C := cStepFI x fn at_ y _ q2 d2 q3 d3 _ i0 j0 i1 j1 HN.out (M60.out.read (.head _)) HLY.out
        rw [← HR.out, ← HBQ.out] at C
        refine C.mono ?_; clear C i0 j0 i1 j1; rintro e w61 ⟨ds, rfl, hm, hb⟩; obtain ⟨v, rfl, hr⟩ := kStateI_openM hm; obtain ⟨X5, y5, rfl⟩ := Kd.R_slice hr; clear hr
        have M61 := Aside0.mk (M60.out.push hb hm); clear hm hb
        refine ⟨_, rfl, ?_⟩
        refine hK.out _ _ ⟨(((M61.out).drop.drop.drop.drop).box EbI.out 0).trans rfl, (((M61.out).drop.drop.drop.drop).box EbI.out 1).trans rfl, (((M61.out).drop.drop.drop.drop).box EbS.out 0).trans rfl, (((M61.out).drop.drop.drop.drop).box EbS.out 1).trans rfl⟩ (fun hHeld => ?_); clear hK K; refine kz (some 109) ?_
        refine pz 7 102 ?_; refine pz 8 110 ?_; refine pz 9 111 ?_
        refine lz 11 none (fun K hK => ?_)
        have b0 := M61.out.box (.tail _ (.tail _ (.head _))); have b1 := M61.out.free (.tail _ (.tail _ (.head _)))
        refine skip_ (w1 := ?_) (by rfl) rfl ?_ ?_
        rotate_left
        · go_simp
          rfl
        clear b0 b1
        refine hK.out _ _ ?_; clear hK K
        refine pz 12 20 ?_
        refine dz ?_
        clear hHeld
        have MZ := Aside0.mk (Mem.sub (Mem.set (A := [_, _]) (Mem.set (A := [_, _]) M61.out 0 (.int .i64 r.acc) rfl) 1 (.slice X5 r.regs.length y5) rfl) (List.Sublist.cons_cons _ (List.Sublist.cons _ (List.Sublist.cons_cons _ (List.Sublist.cons _ (List.Sublist.refl L)))))).swap2
        try go_wp2_with fail
        go_meet
        exact ⟨_, _, _, _, _, _, rfl, rfl, ⟨rfl⟩, MZ⟩
    · skip
      refine box_step ?hg (N := 19) ?hd (cs := #[.int .i64 0, .slice none 0 0]) (t := 31) ?hr ?_; (case hd => rfl); (case hg => rfl); (case hr => first | (go_simp; done) | (go_simp; rfl))
      intro gh hg w63 hbx hbb
      have M63 := Aside0.mk (Mem.boxed MD.out hg hbx hbb); clear hg hbx hbb
      refine hK.out _ _ ⟨(((M63.out).drop).box EbI.out 0).trans rfl, (((M63.out).drop).box EbI.out 1).trans rfl, (((M63.out).drop).box EbS.out 0).trans rfl, (((M63.out).drop).box EbS.out 1).trans rfl⟩ (fun hHeld => ?_); clear hK K; refine kz (some 19) ?_
      refine ez 1 (some 104) (fun K hK => ?_)
      refine gz Try.func15 #[.agg #[.slice A0 x.funcs.length c0, .slice A1 x.consts.length c1]] ?_
      have C := toImageA x _ _ (M63.out.old HX.out) HLX.out
      refine C.mono ?_; clear C; rintro e w64 ⟨ds, rfl, hm, hb⟩
      obtain ⟨q2, d2, q3, d3, rfl, _, _, _, _⟩ := kImageI_open (kImageA_K _ x _ ▸ kImageA.K_of_M hm)
      have M64 := Aside0.mk (M63.out.push hb hm); clear hm hb
      refine ⟨_, rfl, ?_⟩
      refine hK.out _ _ ⟨(((M64.out).drop.drop).box EbI.out 0).trans rfl, (((M64.out).drop.drop).box EbI.out 1).trans rfl, (((M64.out).drop.drop).box EbS.out 0).trans rfl, (((M64.out).drop.drop).box EbS.out 1).trans rfl⟩ (fun hHeld => ?_); clear hK K; refine kz (some 104) ?_
      refine ez 5 (some 108) (fun K hK => ?_)
      refine gz Try.func16 #[.agg #[.int .i64 y.acc, .slice B y.regs.length d]] ?_
      refine (toState y _ _ (M64.out.old HY.out) HLY.out).mono ?_; rintro e w65 ⟨ds, rfl, hm, hb⟩; obtain ⟨v, rfl, hr⟩ := kStateI_openM hm; obtain ⟨X3, y3, rfl⟩ := Kd.R_slice hr; clear hr
      have M65 := Aside0.mk (M64.out.push hb hm); clear hm hb
      refine ⟨_, rfl, ?_⟩
      refine hK.out _ _ ⟨(((M65.out).drop.drop.drop).box EbI.out 0).trans rfl, (((M65.out).drop.drop.drop).box EbI.out 1).trans rfl, (((M65.out).drop.drop.drop).box EbS.out 0).trans rfl, (((M65.out).drop.drop.drop).box EbS.out 1).trans rfl⟩ (fun hHeld => ?_); clear hK K; refine kz (some 108) ?_
      refine ez 6 (some 109) (fun K hK => ?_)
      refine gz Try.func17 #[.agg #[.slice q2 x.funcs.length d2, .slice q3 x.consts.length d3], .int .i64 fn, .int .i64 at_, .agg #[.int .i64 y.acc, .slice X3 y.regs.length y3]] ?_
      obtain ⟨q2', d2', q3', d3', h, i0, j0, i1, j1⟩ := kImageI_open (kImageA_K _ x _ ▸ M65.out.read (.tail _ (.head _)))
      cases h
      have C := cStepFI x fn at_ y _ q2 d2 q3 d3 _ i0 j0 i1 j1 HN.out (M65.out.read (.head _)) HLY.out
      rw [← HR.out, ← HBQ.out] at C
      refine C.mono ?_; clear C i0 j0 i1 j1; rintro e w66 ⟨ds, rfl, hm, hb⟩; obtain ⟨v, rfl, hr⟩ := kStateI_openM hm; obtain ⟨X5, y5, rfl⟩ := Kd.R_slice hr; clear hr
      have M66 := Aside0.mk (M65.out.push hb hm); clear hm hb
      refine ⟨_, rfl, ?_⟩
      refine hK.out _ _ ⟨(((M66.out).drop.drop.drop.drop).box EbI.out 0).trans rfl, (((M66.out).drop.drop.drop.drop).box EbI.out 1).trans rfl, (((M66.out).drop.drop.drop.drop).box EbS.out 0).trans rfl, (((M66.out).drop.drop.drop.drop).box EbS.out 1).trans rfl⟩ (fun hHeld => ?_); clear hK K; refine kz (some 109) ?_
      refine pz 7 102 ?_; refine pz 8 110 ?_; refine pz 9 111 ?_
      refine lz 11 none (fun K hK => ?_)
      have b0 := M66.out.box (.tail _ (.tail _ (.tail _ (.head _)))); have b1 := M66.out.free (.tail _ (.tail _ (.tail _ (.head _))))
      refine skip_ (w1 := ?_) (by rfl) rfl ?_ ?_
      rotate_left
      · go_simp
        rfl
      clear b0 b1
      refine hK.out _ _ ?_; clear hK K
      refine pz 12 20 ?_
      refine dz ?_
      clear hHeld
      have MZ := Aside0.mk (Mem.sub (Mem.set (A := [_, _, _]) (Mem.set (A := [_, _, _]) M66.out 0 (.int .i64 r.acc) rfl) 1 (.slice X5 r.regs.length y5) rfl) (List.Sublist.cons_cons _ (List.Sublist.cons _ (List.Sublist.cons _ (List.Sublist.cons_cons _ (List.Sublist.refl L)))))).swap2
      try go_wp2_with fail
      go_meet
      exact ⟨_, _, _, _, _, _, rfl, rfl, ⟨rfl⟩, MZ⟩
  case rest =>
  clear ML
  obtain ⟨Gh, loh, hih, Xh, Yh, Wh, rfl, rfl, HW, Mh⟩ := hcut
  have hw3 := HW.out; subst hw3; clear HW
  have hl := HL.out; subst hl; clear HL EbI EbS
  have z_bh := Mh.out.box (.head _); have z_bw := Mh.out.box (.tail _ (.tail _ (.tail _ (.tail _ (.tail _ (.tail _ (.tail _ (.tail _ (.head _)))))))))
  go_wp2_with fail
  clear z_bh z_bw
  have C := eqState r r _ _ _ (Mh.out.read (.tail _ (.head _))) (Mh.out.read (.tail _ (.tail _ (.tail _ (.tail _ (.tail _ (.tail _ (.tail _ (.tail _ (.tail _ (.head _)))))))))))
  rw [decide_eq_true rfl] at C
  refine C.mono ?_; clear C; rintro e w68 ⟨rfl, hb⟩
  have M68 := Aside0.mk (Mh.out.step hb); clear hb Mh
  have z_bg := M68.out.box (.tail _ (.tail _ (.head _)))
  go_wp2_with fail
  clear z_bg
  have C := heldState ⟨r.acc, marks 1 r.regs.length⟩ _ r.regs.length 1 _ (M68.out.read (.tail _ (.tail _ (.tail _ (.head _))))) rfl (by omega) (by show 1 + ((marks 1 r.regs.length).length : Int) ≤ _; rw [marks_len]; have h3 := HJ.out; omega)
  simp only [marks_len] at C
  refine C.mono ?_; clear C; rintro e w69 ⟨rfl, hb⟩
  have M69 := Aside0.mk (M68.out.step hb); clear hb M68
  go_wp2
  go_ret
  exact ⟨rfl, M69.out.below⟩
end Go.Proofs.Ytcbaokflimdjnaa.WalkFnExactStepState
end
