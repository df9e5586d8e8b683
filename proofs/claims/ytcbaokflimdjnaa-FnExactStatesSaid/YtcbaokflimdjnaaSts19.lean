/- Part 19 of the proof: general lemmas, contracts of functions, walks. No condition of its own. -/
import Derived.Deep.RegionWith
import Derived.Deep.RegionHeld3
import Derived.Deep.DeepCutAuto
import Derived.IntWalk
import Derived.WalkKit
import Derived.Test.YtcbaokflimdjnaaSts17
import Derived.Test.YtcbaokflimdjnaaSts18
import Derived.Test.YtcbaokflimdjnaaSts11
import Derived.Test.YtcbaokflimdjnaaSts12
import Derived.Test.YtcbaokflimdjnaaSts3
import Derived.Test.YtcbaokflimdjnaaSts13
section
namespace Go.Proofs.Ytcbaokflimdjnaa.QFnExactVerify
open Go.RowKit Go.Proofs.YtcbaokflimdjnaaW.PrintWords Go.Proofs.YtcbaokflimdjnaaW.PrintLast Go.Proofs.YtcbaokflimdjnaaW.PrintMore
attribute [local go_sem] max_two min_two max_three min_three max_four min_four run_field194_0 max2_mx min2_mn   -- for this text's walks alone
set_option linter.unusedVariables false
set_option linter.unusedSimpArgs false
def spec_l16Reg.f (a0_0 : Int) (l0_1 : List Int) (a1 : Int) (a2 : Int) : Option (Bool) := (spec_l01In.f a1 0 (wrap64 ((l0_1.length : Int) - 1))).bind fun t259 => (if t259 = true then (if 0 ≤ a1 then (if a1 < (l0_1.length : Int) then (some ((rd l0_1 a1) == a2)) else (none)) else (none)) else (some false))
set_option maxHeartbeats 8000000 in
set_option maxRecDepth 100000 in
theorem spec_l16Reg.calls (a0_0 : Int) (A0_1 : Option Addr) (c0_1 : Nat) (l0_1 : List Int) (a1 : Int) (a2 : Int) (r : Bool) (w : World) (hr0_1 : Kd.C (Kd.int .i64) w A0_1 l0_1.length l0_1) (hc0_1 : l0_1.length ≤ c0_1) (h : spec_l16Reg.f a0_0 l0_1 a1 a2 = some r) :
    Calls Try.prog 95 #[.agg #[.int .i64 a0_0, .slice A0_1 l0_1.length c0_1], .int .i64 a1, .int .i64 a2] w fun e w' => e = .returned (.bool r) ∧ Below w.heap.size w w' := by
  have hu31 := Try.underlying31
  have HR0_1 := Aside0.mk hr0_1
  have HC0_1 := Aside0.mk hc0_1
  clear hr0_1 hc0_1
  have HB := Aside0.mk (Below.refl w.heap.size w)
  have H : ((spec_l01In.f a1 0 (wrap64 ((l0_1.length : Int) - 1))).bind fun t259 => (if t259 = true then (if 0 ≤ a1 then (if a1 < (l0_1.length : Int) then (some ((rd l0_1 a1) == a2)) else (none)) else (none)) else (some false))) = some r := h
  clear h
  replace H := Option.bind_eq_some_iff.mp H
  obtain ⟨t259, A40, H⟩ := H
  replace H : (if t259 = true then (if 0 ≤ a1 then (if a1 < (l0_1.length : Int) then (some ((rd l0_1 a1) == a2)) else (none)) else (none)) else (some false)) = some r := H
  have A4 := Aside0.mk A40
  clear A40
  by_cases c5 : t259 = true
  · subst c5
    have H1 : (if 0 ≤ a1 then (if a1 < (l0_1.length : Int) then (some ((rd l0_1 a1) == a2)) else (none)) else (none)) = some r := by rw [if_pos rfl] at H; exact H
    clear H
    have H := H1
    clear H1
    by_cases c6 : 0 ≤ a1
    · rw [if_pos c6] at H
      have c6b0 : decide (0 ≤ a1) = true := decide_eq_true c6
      clear c6
      by_cases c7 : a1 < (l0_1.length : Int)
      · rw [if_pos c7] at H
        have c7b0 : decide (a1 < (l0_1.length : Int)) = true := decide_eq_true c7
        clear c7
        obtain rfl := Option.some.inj H
        go_enter Try.func95, Try.ntmps95
        go_wp2_with (first | ((with_reducible refine gate_dst (N := 3) rfl ?_); refine box_event ?hg (N := 3) ?hd (cs := #[.int .i64 a0_0, .slice A0_1 l0_1.length c0_1]) (t := 31) ?hr ?_; (case hd => rfl); (case hg => rfl); (case hr => first | (go_simp; done) | (go_simp; rfl)); intro gb258 hg w8 hbox hb; have n0_ := Aside0.mk (below_step (by repeat (first | (with_reducible first | exact HB.out | apply below_alloc | apply pw_below_drewN | apply below_drew1) | exact HB.out)) hb); have n1_ := Aside0.mk (hbox); have n2_ := Aside0.mk ((by rw [hg]; exact (below_size (by repeat (first | (with_reducible first | exact HB.out | apply below_alloc | apply pw_below_drewN | apply below_drew1) | exact HB.out))) : w.heap.size ≤ gb258)); have n3_ := Aside0.mk ((by rw [hg]; exact (below_size (by repeat (first | (with_reducible first | exact HB.out | apply below_alloc | apply pw_below_drewN | apply below_drew1) | exact HB.out))) : w.heap.size ≤ gb258)); clear HB; have HB := n0_; have BK258 := n1_; have GW258 := n2_; have GE258 := n3_; clear n0_ n1_ n2_ n3_; clear hb hbox hg; have hcz9_0 : w8.cell? ⟨gb258, 0, none⟩ = some (.int .i64 a0_0) := (blk_cell BK258.out 0).trans rfl; have hcz9_1 : w8.cell? ⟨gb258, 1, none⟩ = some (.slice A0_1 l0_1.length c0_1) := (blk_cell BK258.out 1).trans rfl; have hfz9_0 := blk_frozen BK258.out 0; have hfz9_1 := blk_frozen BK258.out 1) | ((with_reducible refine gate_callee (f := 53) rfl ?_); refine goesL_ (some 12) rfl rfl Try.func53 (by kernel_rfl) rfl #[.int .i64 a1, .int .i64 0, .int .i64 (wrap64 ((l0_1.length : Int) - 1))] rfl (by (try simp only [List.map_toArray, List.map_cons, List.map_nil]); first | done | rfl | (simp only [List.length_drop, List.length_take]; rfl)) ?_; (with_reducible refine (spec_l01In.calls a1 0 (wrap64 ((l0_1.length : Int) - 1)) true _ A4.out).mono ?_); rintro e w' ⟨rfl, ⟨nd, rfl⟩⟩; refine ⟨_, rfl, ?_⟩; have p260 : 0 ≤ (a1 : Int) := of_decide_eq_true (by first | (with_reducible assumption) | assumption); have q260 : a1 < (l0_1.length : Int) := of_decide_eq_true (by first | (with_reducible assumption) | assumption); obtain ⟨ad260, e260, hx260_0⟩ := Kd.at_int HR0_1.out a1 p260 q260; cases e260; replace hx260_0 := (HB.out.cell (World.block_lt_of_cell? w _ hx260_0)).trans hx260_0; replace p260 := eq_true p260; replace q260 := eq_true q260))
        go_ret
        exact ⟨by first | rfl | (simp; done) | (simp [errW_none, errW_some] <;> rfl) | (simp [*, errW_none, errW_some] <;> rfl) | (simp [bne, List.isEmpty_iff]; done) | (rw [Bool.eq_iff_iff]; simp), by repeat (first | (with_reducible first | exact HB.out | apply below_alloc | apply pw_below_drewN | apply below_drew1 | refine below_set ?_ GE258.out) | exact HB.out)⟩
      · rw [if_neg c7] at H
        exact absurd H (by simp)
    · rw [if_neg c6] at H
      exact absurd H (by simp)
  · replace c5 := Bool.eq_false_iff.mpr c5
    subst c5
    have H1 : (some false) = some r := by rw [if_neg (show ¬ (false = true) by decide)] at H; exact H
    clear H
    have H := H1
    clear H1
    obtain rfl := Option.some.inj H
    go_enter Try.func95, Try.ntmps95
    go_wp2_with (first | ((with_reducible refine gate_dst (N := 3) rfl ?_); refine box_event ?hg (N := 3) ?hd (cs := #[.int .i64 a0_0, .slice A0_1 l0_1.length c0_1]) (t := 31) ?hr ?_; (case hd => rfl); (case hg => rfl); (case hr => first | (go_simp; done) | (go_simp; rfl)); intro gb258 hg w10 hbox hb; have n0_ := Aside0.mk (below_step (by repeat (first | (with_reducible first | exact HB.out | apply below_alloc | apply pw_below_drewN | apply below_drew1) | exact HB.out)) hb); have n1_ := Aside0.mk (hbox); have n2_ := Aside0.mk ((by rw [hg]; exact (below_size (by repeat (first | (with_reducible first | exact HB.out | apply below_alloc | apply pw_below_drewN | apply below_drew1) | exact HB.out))) : w.heap.size ≤ gb258)); have n3_ := Aside0.mk ((by rw [hg]; exact (below_size (by repeat (first | (with_reducible first | exact HB.out | apply below_alloc | apply pw_below_drewN | apply below_drew1) | exact HB.out))) : w.heap.size ≤ gb258)); clear HB; have HB := n0_; have BK258 := n1_; have GW258 := n2_; have GE258 := n3_; clear n0_ n1_ n2_ n3_; clear hb hbox hg; have hcz11_0 : w10.cell? ⟨gb258, 0, none⟩ = some (.int .i64 a0_0) := (blk_cell BK258.out 0).trans rfl; have hcz11_1 : w10.cell? ⟨gb258, 1, none⟩ = some (.slice A0_1 l0_1.length c0_1) := (blk_cell BK258.out 1).trans rfl; have hfz11_0 := blk_frozen BK258.out 0; have hfz11_1 := blk_frozen BK258.out 1) | ((with_reducible refine gate_callee (f := 53) rfl ?_); refine goesL_ (some 12) rfl rfl Try.func53 (by kernel_rfl) rfl #[.int .i64 a1, .int .i64 0, .int .i64 (wrap64 ((l0_1.length : Int) - 1))] rfl (by (try simp only [List.map_toArray, List.map_cons, List.map_nil]); first | done | rfl | (simp only [List.length_drop, List.length_take]; rfl)) ?_; (with_reducible refine (spec_l01In.calls a1 0 (wrap64 ((l0_1.length : Int) - 1)) false _ A4.out).mono ?_); rintro e w' ⟨rfl, ⟨nd, rfl⟩⟩; refine ⟨_, rfl, ?_⟩))
    go_ret
    exact ⟨by first | rfl | (simp; done) | (simp [errW_none, errW_some] <;> rfl) | (simp [*, errW_none, errW_some] <;> rfl) | (simp [bne, List.isEmpty_iff]; done) | (rw [Bool.eq_iff_iff]; simp), by repeat (first | (with_reducible first | exact HB.out | apply below_alloc | apply pw_below_drewN | apply below_drew1 | refine below_set ?_ GE258.out) | exact HB.out)⟩
def spec_l16Room.f (a0_0 : Int) (l0_1 : List Int) (a1 : Int) : Option (Bool) := (spec_l01In.f a1 0 (wrap64 ((l0_1.length : Int) - 1))).bind fun t262 => (some t262)
set_option maxHeartbeats 8000000 in
set_option maxRecDepth 100000 in
theorem spec_l16Room.calls (a0_0 : Int) (A0_1 : Option Addr) (c0_1 : Nat) (l0_1 : List Int) (a1 : Int) (r : Bool) (w : World) (hr0_1 : Kd.C (Kd.int .i64) w A0_1 l0_1.length l0_1) (hc0_1 : l0_1.length ≤ c0_1) (h : spec_l16Room.f a0_0 l0_1 a1 = some r) :
    Calls Try.prog 96 #[.agg #[.int .i64 a0_0, .slice A0_1 l0_1.length c0_1], .int .i64 a1] w fun e w' => e = .returned (.bool r) ∧ Below w.heap.size w w' := by
  have hu31 := Try.underlying31
  have HR0_1 := Aside0.mk hr0_1
  have HC0_1 := Aside0.mk hc0_1
  clear hr0_1 hc0_1
  have HB := Aside0.mk (Below.refl w.heap.size w)
  have H : ((spec_l01In.f a1 0 (wrap64 ((l0_1.length : Int) - 1))).bind fun t262 => (some t262)) = some r := h
  clear h
  replace H := Option.bind_eq_some_iff.mp H
  obtain ⟨t262, A30, H⟩ := H
  replace H : (some t262) = some r := H
  have A3 := Aside0.mk A30
  clear A30
  obtain rfl := Option.some.inj H
  go_enter Try.func96, Try.ntmps96
  go_wp2_with (first | ((with_reducible refine gate_dst (N := 2) rfl ?_); refine box_event ?hg (N := 2) ?hd (cs := #[.int .i64 a0_0, .slice A0_1 l0_1.length c0_1]) (t := 31) ?hr ?_; (case hd => rfl); (case hg => rfl); (case hr => first | (go_simp; done) | (go_simp; rfl)); intro gb261 hg w4 hbox hb; have n0_ := Aside0.mk (below_step (by repeat (first | (with_reducible first | exact HB.out | apply below_alloc | apply pw_below_drewN | apply below_drew1) | exact HB.out)) hb); have n1_ := Aside0.mk (hbox); have n2_ := Aside0.mk ((by rw [hg]; exact (below_size (by repeat (first | (with_reducible first | exact HB.out | apply below_alloc | apply pw_below_drewN | apply below_drew1) | exact HB.out))) : w.heap.size ≤ gb261)); have n3_ := Aside0.mk ((by rw [hg]; exact (below_size (by repeat (first | (with_reducible first | exact HB.out | apply below_alloc | apply pw_below_drewN | apply below_drew1) | exact HB.out))) : w.heap.size ≤ gb261)); clear HB; have HB := n0_; have BK261 := n1_; have GW261 := n2_; have GE261 := n3_; clear n0_ n1_ n2_ n3_; clear hb hbox hg; have hcz5_0 : w4.cell? ⟨gb261, 0, none⟩ = some (.int .i64 a0_0) := (blk_cell BK261.out 0).trans rfl; have hcz5_1 : w4.cell? ⟨gb261, 1, none⟩ = some (.slice A0_1 l0_1.length c0_1) := (blk_cell BK261.out 1).trans rfl; have hfz5_0 := blk_frozen BK261.out 0; have hfz5_1 := blk_frozen BK261.out 1) | ((with_reducible refine gate_callee (f := 53) rfl ?_); refine goesL_ (some 10) rfl rfl Try.func53 (by kernel_rfl) rfl #[.int .i64 a1, .int .i64 0, .int .i64 (wrap64 ((l0_1.length : Int) - 1))] rfl (by (try simp only [List.map_toArray, List.map_cons, List.map_nil]); first | done | rfl | (simp only [List.length_drop, List.length_take]; rfl)) ?_; (with_reducible refine (spec_l01In.calls a1 0 (wrap64 ((l0_1.length : Int) - 1)) t262 _ A3.out).mono ?_); rintro e w' ⟨rfl, ⟨nd, rfl⟩⟩; refine ⟨_, rfl, ?_⟩))
  go_ret
  exact ⟨by first | rfl | (simp; done) | (simp [errW_none, errW_some] <;> rfl) | (simp [*, errW_none, errW_some] <;> rfl) | (simp [bne, List.isEmpty_iff]; done) | (rw [Bool.eq_iff_iff]; simp), by repeat (first | (with_reducible first | exact HB.out | apply below_alloc | apply pw_below_drewN | apply below_drew1 | refine below_set ?_ GE261.out) | exact HB.out)⟩
-- NOT PRINTED: function 54 (spec_l16May)
end Go.Proofs.Ytcbaokflimdjnaa.QFnExactVerify
end
section
namespace Go.Proofs.Ytcbaokflimdjnaa.Flow
open Go.RowKit Go.Proofs.YtcbaokflimdjnaaW.PrintWords Go.Proofs.YtcbaokflimdjnaaW.PrintLast Go.Proofs.Ytcbaokflimdjnaa.Steps Go.Proofs.YtcbaokflimdjnaaW.PrintMore Go.Proofs.Ytcbaokflimdjnaa.Law Go.Proofs.Ytcbaokflimdjnaa Go.Proofs.Ytcbaokflimdjnaa.QFnExactVerify Go.Proofs.Ytcbaokflimdjnaa.Num
set_option linter.unusedVariables false
set_option linter.unusedSimpArgs false
set_option autoImplicit false
theorem spec_reg (s : State) (r v : Int) (hl : s.regs.length ≤ 1048576) : spec_l16Reg.f s.acc s.regs r v = some (regIs s r v) := by
  unfold spec_l16Reg.f regIs
  rw [show wrap64 ((s.regs.length : Int) - 1) = (s.regs.length : Int) - 1 from wrap64_id (by omega) (by omega), Img.spec_in]
  show (if Img.inB r 0 ((s.regs.length : Int) - 1) = true then _ else _) = _
  unfold Img.inB
  by_cases h : 0 ≤ r ∧ r ≤ (s.regs.length : Int) - 1
  · rw [decide_eq_true h, if_pos rfl, if_pos h.1, if_pos (by omega)]
    rw [show rd s.regs r = el 0 s.regs r.toNat from rfl]
    rfl
  · rw [decide_eq_false h, if_neg (by decide)]
    rfl
theorem spec_room (s : State) (r : Int) (hl : s.regs.length ≤ 1048576) : spec_l16Room.f s.acc s.regs r = some (room s r) := by
  unfold spec_l16Room.f room
  rw [show wrap64 ((s.regs.length : Int) - 1) = (s.regs.length : Int) - 1 from wrap64_id (by omega) (by omega), Img.spec_in]
  rfl
theorem func_at5 {w : World} {A : Option Addr} {l : List Func} (h : kFuncI.C w A l.length l) (j : Nat) (hj : j < l.length) : ∃ a A2 c2 A3 c3 A4 c4, A = some a ∧
    w.cell? (a.add (j * 5)) = some (.int .i64 (el zFunc l j).params) ∧ w.cell? ⟨(a.add (j * 5)).block, (a.add (j * 5)).off + 1, none⟩ = some (.int .i64 (el zFunc l j).regs) ∧ w.cell? ⟨(a.add (j * 5)).block, (a.add (j * 5)).off + 2, none⟩ = some (.slice A2 (el zFunc l j).caps.length c2) ∧ w.cell? ⟨(a.add (j * 5)).block, (a.add (j * 5)).off + 3, none⟩ = some (.slice A3 (el zFunc l j).code.length c3) ∧ w.cell? ⟨(a.add (j * 5)).block, (a.add (j * 5)).off + 4, none⟩ = some (.slice A4 (el zFunc l j).handlers.length c4) ∧
    ((el zFunc l j).caps.length ≤ c2 ∧ kCap.C w A2 (el zFunc l j).caps.length (el zFunc l j).caps) ∧ ((el zFunc l j).code.length ≤ c3 ∧ kIns.C w A3 (el zFunc l j).code.length (el zFunc l j).code) ∧ ((el zFunc l j).handlers.length ≤ c4 ∧ kHandler.C w A4 (el zFunc l j).handlers.length (el zFunc l j).handlers) := by
  obtain ⟨a, A2, c2, A3, c3, A4, c4, e, hK, x0, x1, x2, x3, x4⟩ := FuncI_at h j hj
  obtain ⟨B2, d2, B3, d3, B4, d4, he, l2, g2, l3, g3, l4, g4⟩ := kFuncI_open hK
  cases he
  exact ⟨a, A2, c2, A3, c3, A4, c4, e, x0, x1, x2, x3, x4, ⟨l2, g2⟩, ⟨l3, g3⟩, ⟨l4, g4⟩⟩
theorem args_no (s : State) (a : Int) {k n : Nat} (h : regIs s (a + (k : Int)) 1 = false) (hk : k < n) : argsTo s a n = false := by
  induction n with
  | zero => omega
  | succ n ih =>
    unfold argsTo
    by_cases e : k = n
    · subst e; rw [h]; simp
    · rw [ih (by omega)]; rfl
theorem caps_no (f : Func) (s : State) (cs : List Cap) {k n : Nat} (h : capB f s (el zCap cs k) = false) (hk : k < n) : capsTo f s cs n = false := by
  induction n with
  | zero => omega
  | succ n ih =>
    unfold capsTo
    by_cases e : k = n
    · subst e; rw [h]; simp
    · rw [ih (by omega)]; rfl
def mayS.T33 : Bool × List (List Nat × List Nat) := (true, [([], []), ([], []), ([0, 1], [0, 1]), ([2], [2]), ([3], [3]), ([4], [4]), ([5], [5]), ([5], [5]), ([5], [5]), ([7, 8, 5], [5, 7, 8]), ([9, 5], [5, 9]), ([10, 5], [5, 10]), ([6, 11, 5, 5], [5, 6, 11]), ([12, 5], [5, 12]), ([5, 13], [5, 13]), ([14, 12], [14]), ([15], [15]), ([15], [15]), ([16, 17, 15], [15, 16, 17]), ([18, 15], [15, 18]), ([19, 15], [15, 19]), ([20, 15], [15, 20]), ([21, 15, 15], [15, 21]), ([22], [22]), ([22], [22]), ([23, 24, 22], [22, 23, 24]), ([25, 22], [22, 25]), ([26, 22], [22, 26]), ([22], [22]), ([28, 22], [22, 28]), ([29, 22], [22, 29]), ([27, 30, 22], [22, 27, 30]), ([22, 31, 15], [15, 22, 31]), ([15, 32], [15, 32])])
def mayS.B33 : List Nat := [0, 0, 3, 7, 15, 31, 63, 63, 63, 447, 959, 1983, 4095, 8191, 16383, 32767, 65535, 65535, 262143, 524287, 1048575, 2097151, 4194303, 8388607, 8388607, 33554431, 67108863, 134217727, 8388607, 276824063, 813694975, 2147483647, 4294967295, 8589934591]
theorem mayS.tab33 : rtab .any (opsOf Try.f54 33) = mayS.T33 := by kernel_rfl
theorem mayS.bits33 : waitsOk mayS.T33.2 mayS.B33 = true := by kernel_rfl
/-- What is known of an instruction of kind op, and of the memory, when spec.l16May has laid its arguments. -/
structure MH (x : Image) (j : Nat) (s : State) (op ia ib : Int) (c0 : Nat) (A1 : Option Addr) (c1 : Nat) (AR : Option Addr) (cR : Nat) (w : World) (f : Func) (fa : Addr) (A2 : Option Addr) (c2 : Nat) (A3 : Option Addr) (c3 : Nat) (A4 : Option Addr) (c4 : Nat) : Prop where
  G0 : Aside0 (kFuncI.C w (some fa) x.funcs.length x.funcs)
  HR : Aside0 ((Kd.int .i64).C w AR s.regs.length s.regs)
  HJ : Aside0 (j < x.funcs.length)
  HFE : Aside0 (f = el zFunc x.funcs j)
  HC : Aside0 (f.caps.length ≤ c2 ∧ kCap.C w A2 f.caps.length f.caps)
  HL0 : Aside0 (x.funcs.length ≤ c0)
  HHC : Aside0 (s.regs.length ≤ cR)
  j1 : (0 : Int) ≤ (j : Int)
  j2 : (j : Int) < (x.funcs.length : Int)
  hl : s.regs.length ≤ 1048576
  hx : x.funcs.length ≤ 1048576
  ha : 0 ≤ ia ∧ ia ≤ 300
  hb : 0 ≤ ib ∧ ib ≤ 300
  hf : f.caps.length ≤ 1048576
  M0 : Aside0 (Mem w (World.alloc (World.alloc (World.alloc (w.alloc (.cells #[.slice (some fa) x.funcs.length c0, .slice A1 x.consts.length c1] 37)) (.cells #[.int .i64 op, .int .i64 ia, .int .i64 ib] 76)) (.cells #[.int .i64 s.acc, .slice AR s.regs.length cR] 31)) (.cells #[.int .i64 f.params, .int .i64 f.regs, .slice A2 f.caps.length c2, .slice A3 f.code.length c3, .slice A4 f.handlers.length c4] 73)) [Hold.box (w.heap.size + 3) #[.int .i64 f.params, .int .i64 f.regs, .slice A2 f.caps.length c2, .slice A3 f.code.length c3, .slice A4 f.handlers.length c4] 73, Hold.box (w.heap.size + 2) #[.int .i64 s.acc, .slice AR s.regs.length cR] 31, Hold.box (w.heap.size + 1) #[.int .i64 op, .int .i64 ia, .int .i64 ib] 76, Hold.box w.heap.size #[.slice (some fa) x.funcs.length c0, .slice A1 x.consts.length c1] 37])
  p0 : World.cell? (World.alloc (World.alloc (w.alloc (.cells #[.slice (some fa) x.funcs.length c0, .slice A1 x.consts.length c1] 37)) (.cells #[.int .i64 op, .int .i64 ia, .int .i64 ib] 76)) (.cells #[.int .i64 s.acc, .slice AR s.regs.length cR] 31)) (fa.add (j * 5)) = some (.int .i64 f.params)
  p1 : World.cell? (World.alloc (World.alloc (w.alloc (.cells #[.slice (some fa) x.funcs.length c0, .slice A1 x.consts.length c1] 37)) (.cells #[.int .i64 op, .int .i64 ia, .int .i64 ib] 76)) (.cells #[.int .i64 s.acc, .slice AR s.regs.length cR] 31)) ⟨(fa.add (j * 5)).block, (fa.add (j * 5)).off + 1, none⟩ = some (.int .i64 f.regs)
  p2 : World.cell? (World.alloc (World.alloc (w.alloc (.cells #[.slice (some fa) x.funcs.length c0, .slice A1 x.consts.length c1] 37)) (.cells #[.int .i64 op, .int .i64 ia, .int .i64 ib] 76)) (.cells #[.int .i64 s.acc, .slice AR s.regs.length cR] 31)) ⟨(fa.add (j * 5)).block, (fa.add (j * 5)).off + 2, none⟩ = some (.slice A2 f.caps.length c2)
  p3 : World.cell? (World.alloc (World.alloc (w.alloc (.cells #[.slice (some fa) x.funcs.length c0, .slice A1 x.consts.length c1] 37)) (.cells #[.int .i64 op, .int .i64 ia, .int .i64 ib] 76)) (.cells #[.int .i64 s.acc, .slice AR s.regs.length cR] 31)) ⟨(fa.add (j * 5)).block, (fa.add (j * 5)).off + 3, none⟩ = some (.slice A3 f.code.length c3)
  p4 : World.cell? (World.alloc (World.alloc (w.alloc (.cells #[.slice (some fa) x.funcs.length c0, .slice A1 x.consts.length c1] 37)) (.cells #[.int .i64 op, .int .i64 ia, .int .i64 ib] 76)) (.cells #[.int .i64 s.acc, .slice AR s.regs.length cR] 31)) ⟨(fa.add (j * 5)).block, (fa.add (j * 5)).off + 4, none⟩ = some (.slice A4 f.handlers.length c4)
  z0 : ∀ o, World.cell? (World.alloc (World.alloc (w.alloc (.cells #[.slice (some fa) x.funcs.length c0, .slice A1 x.consts.length c1] 37)) (.cells #[.int .i64 op, .int .i64 ia, .int .i64 ib] 76)) (.cells #[.int .i64 s.acc, .slice AR s.regs.length cR] 31)) ⟨w.heap.size, o, none⟩ = (#[.slice (some fa) x.funcs.length c0, .slice A1 x.consts.length c1] : Array Value)[o]?
  z1 : ∀ o, World.cell? (World.alloc (World.alloc (w.alloc (.cells #[.slice (some fa) x.funcs.length c0, .slice A1 x.consts.length c1] 37)) (.cells #[.int .i64 op, .int .i64 ia, .int .i64 ib] 76)) (.cells #[.int .i64 s.acc, .slice AR s.regs.length cR] 31)) ⟨w.heap.size + 1, o, none⟩ = (#[.int .i64 op, .int .i64 ia, .int .i64 ib] : Array Value)[o]?
  z2 : ∀ o, World.cell? (World.alloc (World.alloc (w.alloc (.cells #[.slice (some fa) x.funcs.length c0, .slice A1 x.consts.length c1] 37)) (.cells #[.int .i64 op, .int .i64 ia, .int .i64 ib] 76)) (.cells #[.int .i64 s.acc, .slice AR s.regs.length cR] 31)) ⟨w.heap.size + 2, o, none⟩ = (#[.int .i64 s.acc, .slice AR s.regs.length cR] : Array Value)[o]?
  z3 : ∀ o, World.cell? (World.alloc (World.alloc (World.alloc (w.alloc (.cells #[.slice (some fa) x.funcs.length c0, .slice A1 x.consts.length c1] 37)) (.cells #[.int .i64 op, .int .i64 ia, .int .i64 ib] 76)) (.cells #[.int .i64 s.acc, .slice AR s.regs.length cR] 31)) (.cells #[.int .i64 f.params, .int .i64 f.regs, .slice A2 f.caps.length c2, .slice A3 f.code.length c3, .slice A4 f.handlers.length c4] 73)) ⟨w.heap.size + 3, o, none⟩ = (#[.int .i64 f.params, .int .i64 f.regs, .slice A2 f.caps.length c2, .slice A3 f.code.length c3, .slice A4 f.handlers.length c4] : Array Value)[o]?
def MayAt (op : Int) : Prop := ∀ (x : Image) (j : Nat) (s : State) (ia ib : Int) (A0 : Option Addr) (c0 : Nat) (A1 : Option Addr) (c1 : Nat) (AR : Option Addr) (cR : Nat) (w : World) (l0 : x.funcs.length ≤ c0) (g0 : kFuncI.C w A0 x.funcs.length x.funcs) (hj : j < x.funcs.length) (hr : (Kd.int .i64).C w AR s.regs.length s.regs) (hc : s.regs.length ≤ cR) (hl : s.regs.length ≤ 1048576) (hx : x.funcs.length ≤ 1048576) (ha : 0 ≤ ia ∧ ia ≤ 300) (hb : 0 ≤ ib ∧ ib ≤ 300) (hf : (el zFunc x.funcs j).caps.length ≤ 1048576),
    Calls Try.prog 54 #[.agg #[.slice A0 x.funcs.length c0, .slice A1 x.consts.length c1], .int .i64 j, .agg #[.int .i64 op, .int .i64 ia, .int .i64 ib], .agg #[.int .i64 s.acc, .slice AR s.regs.length cR]] w fun e w' => e = .returned (.bool (mayB x (el zFunc x.funcs j) ⟨op, ia, ib⟩ s)) ∧ Below w.heap.size w w'
theorem may_at (op : Int) (h : ∀ x j s ia ib c0 A1 c1 AR cR w f fa A2 c2 A3 c3 A4 c4, MH x j s op ia ib c0 A1 c1 AR cR w f fa A2 c2 A3 c3 A4 c4 → Calls Try.prog 54 #[.agg #[.slice (some fa) x.funcs.length c0, .slice A1 x.consts.length c1], .int .i64 j, .agg #[.int .i64 op, .int .i64 ia, .int .i64 ib], .agg #[.int .i64 s.acc, .slice AR s.regs.length cR]] w fun e w' => e = .returned (.bool (mayB x f ⟨op, ia, ib⟩ s)) ∧ Below w.heap.size w w') : MayAt op := by
  intro x j s ia ib A0 c0 A1 c1 AR cR w l0 g0 hj hr hc hl hx ha hb hf
  have G0 := Aside0.mk g0; have HR := Aside0.mk hr; have HJ := Aside0.mk hj
  obtain ⟨fa, A2, c2, A3, c3, A4, c4, hfa, x0, x1, x2, x3, x4, hcap, hcode, hhan⟩ := func_at5 g0 j hj
  obtain ⟨f, hfe⟩ : ∃ f, f = el zFunc x.funcs j := ⟨_, rfl⟩
  rw [← hfe] at x0 x1 x2 x3 x4 hcap hcode hhan hf ⊢
  have HFE := Aside0.mk hfe; have HC := Aside0.mk hcap; have HL0 := Aside0.mk l0; have HHC := Aside0.mk hc
  have j1 : (0 : Int) ≤ (j : Int) := by omega
  have j2 : (j : Int) < (x.funcs.length : Int) := by omega
  cases hfa
  have M00 := Aside0.mk ((((Mem.start w).allocAt rfl #[.slice (some fa) x.funcs.length c0, .slice A1 x.consts.length c1] 37).allocAt (g := w.heap.size + 1) (by simp) #[.int .i64 op, .int .i64 ia, .int .i64 ib] 76).allocAt (g := w.heap.size + 2) (by simp) #[.int .i64 s.acc, .slice AR s.regs.length cR] 31)
  have M0 := Aside0.mk (M00.out.allocAt (g := w.heap.size + 3) (by simp) #[.int .i64 f.params, .int .i64 f.regs, .slice A2 f.caps.length c2, .slice A3 f.code.length c3, .slice A4 f.handlers.length c4] 73)
  exact h x j s ia ib c0 A1 c1 AR cR w f fa A2 c2 A3 c3 A4 c4 ⟨G0, HR, HJ, HFE, HC, HL0, HHC, j1, j2, hl, hx, ha, hb, hf, M0, pw_cell_below M00.out.below x0, pw_cell_below M00.out.below x1, pw_cell_below M00.out.below x2, pw_cell_below M00.out.below x3, pw_cell_below M00.out.below x4,
    M00.out.box (.tail _ (.tail _ (.head _))), M00.out.box (.tail _ (.head _)), M00.out.box (.head _), M0.out.box (.head _)⟩
set_option maxHeartbeats 8000000 in
set_option maxRecDepth 100000 in
theorem may1 : MayAt 1 := by
  refine may_at 1 ?_
  rintro x j s ia ib c0 A1 c1 AR cR w f fa A2 c2 A3 c3 A4 c4 ⟨G0, HR, HJ, HFE, HC, HL0, HHC, j1, j2, hl, hx, ha, hb, hf, M0, p0, p1, p2, p3, p4, z0, z1, z2, z3⟩
  have hu := Try.underlying37; have hu1 := Try.underlying34; have hu2 := Try.underlying73; have hu3 := Try.underlying76; have hu4 := Try.underlying31; have hu5 := Try.underlying69; have hu6 := Try.underlying105
  go_enter Try.func54, Try.ntmps54
  go_wp2
  go_ret
  exact ⟨rfl, M0.out.below⟩
set_option maxHeartbeats 8000000 in
set_option maxRecDepth 100000 in
theorem may7 : MayAt 7 := by
  refine may_at 7 ?_
  rintro x j s ia ib c0 A1 c1 AR cR w f fa A2 c2 A3 c3 A4 c4 ⟨G0, HR, HJ, HFE, HC, HL0, HHC, j1, j2, hl, hx, ha, hb, hf, M0, p0, p1, p2, p3, p4, z0, z1, z2, z3⟩
  have hu := Try.underlying37; have hu1 := Try.underlying34; have hu2 := Try.underlying73; have hu3 := Try.underlying76; have hu4 := Try.underlying31; have hu5 := Try.underlying69; have hu6 := Try.underlying105
  go_enter Try.func54, Try.ntmps54
  go_wp2
  go_ret
  exact ⟨rfl, M0.out.below⟩
set_option maxHeartbeats 8000000 in
set_option maxRecDepth 100000 in
theorem may12 : MayAt 12 := by
  refine may_at 12 ?_
  rintro x j s ia ib c0 A1 c1 AR cR w f fa A2 c2 A3 c3 A4 c4 ⟨G0, HR, HJ, HFE, HC, HL0, HHC, j1, j2, hl, hx, ha, hb, hf, M0, p0, p1, p2, p3, p4, z0, z1, z2, z3⟩
  have hu := Try.underlying37; have hu1 := Try.underlying34; have hu2 := Try.underlying73; have hu3 := Try.underlying76; have hu4 := Try.underlying31; have hu5 := Try.underlying69; have hu6 := Try.underlying105
  go_enter Try.func54, Try.ntmps54
  go_wp2
  go_ret
  exact ⟨rfl, M0.out.below⟩
set_option maxHeartbeats 8000000 in
set_option maxRecDepth 100000 in
theorem may8 : MayAt 8 := by
  refine may_at 8 ?_
  rintro x j s ia ib c0 A1 c1 AR cR w f fa A2 c2 A3 c3 A4 c4 ⟨G0, HR, HJ, HFE, HC, HL0, HHC, j1, j2, hl, hx, ha, hb, hf, M0, p0, p1, p2, p3, p4, z0, z1, z2, z3⟩
  have hu := Try.underlying37; have hu1 := Try.underlying34; have hu2 := Try.underlying73; have hu3 := Try.underlying76; have hu4 := Try.underlying31; have hu5 := Try.underlying69; have hu6 := Try.underlying105
  go_enter Try.func54, Try.ntmps54
  rcases Bool.eq_false_or_eq_true (decide (ia < (f.caps.length : Int))) with hd | hd
  · go_wp2
    go_ret
    exact ⟨by unfold mayB; simp [hd], M0.out.below⟩
  · go_wp2
    go_ret
    exact ⟨by unfold mayB; simp [hd], M0.out.below⟩
set_option maxHeartbeats 8000000 in
set_option maxRecDepth 100000 in
theorem may13 : MayAt 13 := by
  refine may_at 13 ?_
  rintro x j s ia ib c0 A1 c1 AR cR w f fa A2 c2 A3 c3 A4 c4 ⟨G0, HR, HJ, HFE, HC, HL0, HHC, j1, j2, hl, hx, ha, hb, hf, M0, p0, p1, p2, p3, p4, z0, z1, z2, z3⟩
  have hu := Try.underlying37; have hu1 := Try.underlying34; have hu2 := Try.underlying73; have hu3 := Try.underlying76; have hu4 := Try.underlying31; have hu5 := Try.underlying69; have hu6 := Try.underlying105
  go_enter Try.func54, Try.ntmps54
  rcases Bool.eq_false_or_eq_true (decide (ia < (f.code.length : Int))) with hd | hd
  · go_wp2
    go_ret
    exact ⟨by unfold mayB; simp [hd], M0.out.below⟩
  · go_wp2
    go_ret
    exact ⟨by unfold mayB; simp [hd], M0.out.below⟩
set_option maxHeartbeats 8000000 in
set_option maxRecDepth 100000 in
theorem may14 : MayAt 14 := by
  refine may_at 14 ?_
  rintro x j s ia ib c0 A1 c1 AR cR w f fa A2 c2 A3 c3 A4 c4 ⟨G0, HR, HJ, HFE, HC, HL0, HHC, j1, j2, hl, hx, ha, hb, hf, M0, p0, p1, p2, p3, p4, z0, z1, z2, z3⟩
  have hu := Try.underlying37; have hu1 := Try.underlying34; have hu2 := Try.underlying73; have hu3 := Try.underlying76; have hu4 := Try.underlying31; have hu5 := Try.underlying69; have hu6 := Try.underlying105
  go_enter Try.func54, Try.ntmps54
  rcases Bool.eq_false_or_eq_true (decide (ia < (f.code.length : Int))) with hd | hd
  · go_wp2
    go_ret
    exact ⟨by unfold mayB; simp [hd], M0.out.below⟩
  · go_wp2
    go_ret
    exact ⟨by unfold mayB; simp [hd], M0.out.below⟩
set_option maxHeartbeats 8000000 in
set_option maxRecDepth 100000 in
theorem may10 : MayAt 10 := by
  refine may_at 10 ?_
  rintro x j s ia ib c0 A1 c1 AR cR w f fa A2 c2 A3 c3 A4 c4 ⟨G0, HR, HJ, HFE, HC, HL0, HHC, j1, j2, hl, hx, ha, hb, hf, M0, p0, p1, p2, p3, p4, z0, z1, z2, z3⟩
  have hu := Try.underlying37; have hu1 := Try.underlying34; have hu2 := Try.underlying73; have hu3 := Try.underlying76; have hu4 := Try.underlying31; have hu5 := Try.underlying69; have hu6 := Try.underlying105
  go_enter Try.func54, Try.ntmps54
  go_wp2
  go_ret
  exact ⟨rfl, M0.out.below⟩
set_option maxHeartbeats 8000000 in
set_option maxRecDepth 100000 in
theorem may11 : MayAt 11 := by
  refine may_at 11 ?_
  rintro x j s ia ib c0 A1 c1 AR cR w f fa A2 c2 A3 c3 A4 c4 ⟨G0, HR, HJ, HFE, HC, HL0, HHC, j1, j2, hl, hx, ha, hb, hf, M0, p0, p1, p2, p3, p4, z0, z1, z2, z3⟩
  have hu := Try.underlying37; have hu1 := Try.underlying34; have hu2 := Try.underlying73; have hu3 := Try.underlying76; have hu4 := Try.underlying31; have hu5 := Try.underlying69; have hu6 := Try.underlying105
  go_enter Try.func54, Try.ntmps54
  go_wp2
  go_ret
  exact ⟨rfl, M0.out.below⟩
set_option maxHeartbeats 8000000 in
set_option maxRecDepth 100000 in
theorem may17 : MayAt 17 := by
  refine may_at 17 ?_
  rintro x j s ia ib c0 A1 c1 AR cR w f fa A2 c2 A3 c3 A4 c4 ⟨G0, HR, HJ, HFE, HC, HL0, HHC, j1, j2, hl, hx, ha, hb, hf, M0, p0, p1, p2, p3, p4, z0, z1, z2, z3⟩
  have hu := Try.underlying37; have hu1 := Try.underlying34; have hu2 := Try.underlying73; have hu3 := Try.underlying76; have hu4 := Try.underlying31; have hu5 := Try.underlying69; have hu6 := Try.underlying105
  go_enter Try.func54, Try.ntmps54
  go_wp2
  go_ret
  exact ⟨rfl, M0.out.below⟩
set_option maxHeartbeats 8000000 in
set_option maxRecDepth 100000 in
theorem may18 : MayAt 18 := by
  refine may_at 18 ?_
  rintro x j s ia ib c0 A1 c1 AR cR w f fa A2 c2 A3 c3 A4 c4 ⟨G0, HR, HJ, HFE, HC, HL0, HHC, j1, j2, hl, hx, ha, hb, hf, M0, p0, p1, p2, p3, p4, z0, z1, z2, z3⟩
  have hu := Try.underlying37; have hu1 := Try.underlying34; have hu2 := Try.underlying73; have hu3 := Try.underlying76; have hu4 := Try.underlying31; have hu5 := Try.underlying69; have hu6 := Try.underlying105
  go_enter Try.func54, Try.ntmps54
  go_wp2
  go_ret
  exact ⟨rfl, M0.out.below⟩
set_option maxHeartbeats 8000000 in
set_option maxRecDepth 100000 in
theorem may19 : MayAt 19 := by
  refine may_at 19 ?_
  rintro x j s ia ib c0 A1 c1 AR cR w f fa A2 c2 A3 c3 A4 c4 ⟨G0, HR, HJ, HFE, HC, HL0, HHC, j1, j2, hl, hx, ha, hb, hf, M0, p0, p1, p2, p3, p4, z0, z1, z2, z3⟩
  have hu := Try.underlying37; have hu1 := Try.underlying34; have hu2 := Try.underlying73; have hu3 := Try.underlying76; have hu4 := Try.underlying31; have hu5 := Try.underlying69; have hu6 := Try.underlying105
  go_enter Try.func54, Try.ntmps54
  go_wp2
  go_ret
  exact ⟨rfl, M0.out.below⟩
set_option maxHeartbeats 8000000 in
set_option maxRecDepth 100000 in
theorem may2 : MayAt 2 := by
  refine may_at 2 ?_
  rintro x j s ia ib c0 A1 c1 AR cR w f fa A2 c2 A3 c3 A4 c4 ⟨G0, HR, HJ, HFE, HC, HL0, HHC, j1, j2, hl, hx, ha, hb, hf, M0, p0, p1, p2, p3, p4, z0, z1, z2, z3⟩
  have hu := Try.underlying37; have hu1 := Try.underlying34; have hu2 := Try.underlying73; have hu3 := Try.underlying76; have hu4 := Try.underlying31; have hu5 := Try.underlying69; have hu6 := Try.underlying105
  go_enter Try.func54, Try.ntmps54
  go_wp2_with fail
  refine (spec_l16Reg.calls s.acc AR cR s.regs ia 1 _ _ (Kd.C_below HR.out M0.out.below) HHC.out (spec_reg s ia 1 hl)).mono ?_; rintro e w1 ⟨rfl, hb⟩
  have M1 := Aside0.mk (M0.out.step hb); clear hb M0 z0 z1 z2 z3 p0 p1 p2 p3 p4
  go_wp2
  go_ret
  exact ⟨rfl, M1.out.below⟩
set_option maxHeartbeats 8000000 in
set_option maxRecDepth 100000 in
theorem may5 : MayAt 5 := by
  refine may_at 5 ?_
  rintro x j s ia ib c0 A1 c1 AR cR w f fa A2 c2 A3 c3 A4 c4 ⟨G0, HR, HJ, HFE, HC, HL0, HHC, j1, j2, hl, hx, ha, hb, hf, M0, p0, p1, p2, p3, p4, z0, z1, z2, z3⟩
  have hu := Try.underlying37; have hu1 := Try.underlying34; have hu2 := Try.underlying73; have hu3 := Try.underlying76; have hu4 := Try.underlying31; have hu5 := Try.underlying69; have hu6 := Try.underlying105
  go_enter Try.func54, Try.ntmps54
  go_wp2_with fail
  refine (spec_l16Reg.calls s.acc AR cR s.regs ia 2 _ _ (Kd.C_below HR.out M0.out.below) HHC.out (spec_reg s ia 2 hl)).mono ?_; rintro e w1 ⟨rfl, hb⟩
  have M1 := Aside0.mk (M0.out.step hb); clear hb M0 z0 z1 z2 z3 p0 p1 p2 p3 p4
  go_wp2
  go_ret
  exact ⟨rfl, M1.out.below⟩
set_option maxHeartbeats 8000000 in
set_option maxRecDepth 100000 in
theorem may3 : MayAt 3 := by
  refine may_at 3 ?_
  rintro x j s ia ib c0 A1 c1 AR cR w f fa A2 c2 A3 c3 A4 c4 ⟨G0, HR, HJ, HFE, HC, HL0, HHC, j1, j2, hl, hx, ha, hb, hf, M0, p0, p1, p2, p3, p4, z0, z1, z2, z3⟩
  have hu := Try.underlying37; have hu1 := Try.underlying34; have hu2 := Try.underlying73; have hu3 := Try.underlying76; have hu4 := Try.underlying31; have hu5 := Try.underlying69; have hu6 := Try.underlying105
  go_enter Try.func54, Try.ntmps54
  go_wp2_with fail
  refine (spec_l16Room.calls s.acc AR cR s.regs ia _ _ (Kd.C_below HR.out M0.out.below) HHC.out (spec_room s ia hl)).mono ?_; rintro e w1 ⟨rfl, hb⟩
  have M1 := Aside0.mk (M0.out.step hb); clear hb M0 z0 z1 z2 z3 p0 p1 p2 p3 p4
  rcases Bool.eq_false_or_eq_true (room s ia) with hd | hd
  · rw [hd]
    go_wp2
    go_ret
    exact ⟨by unfold mayB; simp [hd], M1.out.below⟩
  · rw [hd]
    go_wp2
    go_ret
    exact ⟨by unfold mayB; simp [hd], M1.out.below⟩
set_option maxHeartbeats 8000000 in
set_option maxRecDepth 100000 in
theorem may4 : MayAt 4 := by
  refine may_at 4 ?_
  rintro x j s ia ib c0 A1 c1 AR cR w f fa A2 c2 A3 c3 A4 c4 ⟨G0, HR, HJ, HFE, HC, HL0, HHC, j1, j2, hl, hx, ha, hb, hf, M0, p0, p1, p2, p3, p4, z0, z1, z2, z3⟩
  have hu := Try.underlying37; have hu1 := Try.underlying34; have hu2 := Try.underlying73; have hu3 := Try.underlying76; have hu4 := Try.underlying31; have hu5 := Try.underlying69; have hu6 := Try.underlying105
  go_enter Try.func54, Try.ntmps54
  go_wp2_with fail
  refine (spec_l16Room.calls s.acc AR cR s.regs ia _ _ (Kd.C_below HR.out M0.out.below) HHC.out (spec_room s ia hl)).mono ?_; rintro e w1 ⟨rfl, hb⟩
  have M1 := Aside0.mk (M0.out.step hb); clear hb M0 z0 z1 z2 z3 p0 p1 p2 p3 p4
  rcases Bool.eq_false_or_eq_true (room s ia) with hd | hd
  · rw [hd]
    go_wp2
    go_ret
    exact ⟨by unfold mayB; simp [hd], M1.out.below⟩
  · rw [hd]
    go_wp2
    go_ret
    exact ⟨by unfold mayB; simp [hd], M1.out.below⟩
set_option maxHeartbeats 8000000 in
set_option maxRecDepth 100000 in
theorem may6 : MayAt 6 := by
  refine may_at 6 ?_
  rintro x j s ia ib c0 A1 c1 AR cR w f fa A2 c2 A3 c3 A4 c4 ⟨G0, HR, HJ, HFE, HC, HL0, HHC, j1, j2, hl, hx, ha, hb, hf, M0, p0, p1, p2, p3, p4, z0, z1, z2, z3⟩
  have hu := Try.underlying37; have hu1 := Try.underlying34; have hu2 := Try.underlying73; have hu3 := Try.underlying76; have hu4 := Try.underlying31; have hu5 := Try.underlying69; have hu6 := Try.underlying105
  go_enter Try.func54, Try.ntmps54
  go_wp2_with fail
  refine (spec_l16Reg.calls s.acc AR cR s.regs ia 2 _ _ (Kd.C_below HR.out M0.out.below) HHC.out (spec_reg s ia 2 hl)).mono ?_; rintro e w1 ⟨rfl, hb⟩
  have M1 := Aside0.mk (M0.out.step hb); clear hb M0 z0 z1 z2 z3 p0 p1 p2 p3 p4
  rcases Bool.eq_false_or_eq_true (regIs s ia 2) with hd | hd
  · rw [hd]
    go_wp2
    go_ret
    exact ⟨by unfold mayB; simp [hd], M1.out.below⟩
  · rw [hd]
    go_wp2
    go_ret
    exact ⟨by unfold mayB; simp [hd], M1.out.below⟩
set_option maxHeartbeats 8000000 in
set_option maxRecDepth 100000 in
theorem may9 : MayAt 9 := by
  refine may_at 9 ?_
  rintro x j s ia ib c0 A1 c1 AR cR w f fa A2 c2 A3 c3 A4 c4 ⟨G0, HR, HJ, HFE, HC, HL0, HHC, j1, j2, hl, hx, ha, hb, hf, M0, p0, p1, p2, p3, p4, z0, z1, z2, z3⟩
  have hu := Try.underlying37; have hu1 := Try.underlying34; have hu2 := Try.underlying73; have hu3 := Try.underlying76; have hu4 := Try.underlying31; have hu5 := Try.underlying69; have hu6 := Try.underlying105
  go_enter Try.func54, Try.ntmps54
  go_wp2_with fail
  refine (spec_l01In.calls _ _ _ _ _ (Img.spec_in ia 1 11)).mono ?_; rintro e w1 ⟨rfl, ⟨⟨n1, rfl⟩⟩⟩
  have M1 := Aside0.mk (M0.out.draw n1); clear M0 z0 z1 z2 z3 p0 p1 p2 p3 p4
  have z0 := M1.out.box (.tail _ (.tail _ (.tail _ (.head _)))); have z1 := M1.out.box (.tail _ (.tail _ (.head _))); have z2 := M1.out.box (.tail _ (.head _)); have z3 := M1.out.box (.head _)
  rcases Bool.eq_false_or_eq_true (Img.inB ia 1 11) with hd | hd
  rotate_left
  · rw [hd]
    go_wp2
    go_ret
    exact ⟨by unfold mayB; have h2 : decide (1 ≤ ia ∧ ia ≤ 11) = false := hd; simp [h2], M1.out.below⟩
  rw [hd]
  go_wp2_with fail
  refine (spec_l16Reg.calls s.acc AR cR s.regs ib 1 _ _ (Kd.C_below HR.out M1.out.below) HHC.out (spec_reg s ib 1 hl)).mono ?_; rintro e w2 ⟨rfl, hb⟩
  have M2 := Aside0.mk (M1.out.step hb); clear hb M1 z0 z1 z2 z3
  rcases Bool.eq_false_or_eq_true (regIs s ib 1) with hq | hq
  · rw [hq]
    go_wp2
    go_ret
    exact ⟨by unfold mayB; have h2 : decide (1 ≤ ia ∧ ia ≤ 11) = true := hd; simp [h2, hq], M2.out.below⟩
  · rw [hq]
    go_wp2
    go_ret
    exact ⟨by unfold mayB; have h2 : decide (1 ≤ ia ∧ ia ≤ 11) = true := hd; simp [h2, hq], M2.out.below⟩
set_option maxHeartbeats 8000000 in
set_option maxRecDepth 100000 in
theorem may16 : MayAt 16 := by
  refine may_at 16 ?_
  rintro x j s ia ib c0 A1 c1 AR cR w f fa A2 c2 A3 c3 A4 c4 ⟨G0, HR, HJ, HFE, HC, HL0, HHC, j1, j2, hl, hx, ha, hb, hf, M0, p0, p1, p2, p3, p4, z0, z1, z2, z3⟩
  have hu := Try.underlying37; have hu1 := Try.underlying34; have hu2 := Try.underlying73; have hu3 := Try.underlying76; have hu4 := Try.underlying31; have hu5 := Try.underlying69; have hu6 := Try.underlying105
  go_enter Try.func54, Try.ntmps54
  go_upto_region 38 with fail
  clear z0 z1 z2 z3 p0 p1 p2 p3 p4
  go_loopw [13] (fun v wx => ∃ k : Nat, v = .int .i64 k ∧ k ≤ ib.toNat + 1 ∧ argsTo s ia k = true ∧ Aside0 (Mem w wx [Hold.box (w.heap.size + 3) #[.int .i64 f.params, .int .i64 f.regs, .slice A2 f.caps.length c2, .slice A3 f.code.length c3, .slice A4 f.handlers.length c4] 73, Hold.box (w.heap.size + 2) #[.int .i64 s.acc, .slice AR s.regs.length cR] 31, Hold.box (w.heap.size + 1) #[.int .i64 16, .int .i64 ia, .int .i64 ib] 76, Hold.box (w.heap.size) #[.slice (some fa) x.funcs.length c0, .slice A1 x.consts.length c1] 37])) (fun v _ => ib.toNat + 1 - (intOf v).toNat)
  case atStart => exact ⟨0, rfl, by omega, rfl, M0⟩
  case round =>
  clear M0
  obtain ⟨k, rfl, hk, hA, M1⟩ := hrel
  have z0 := M1.out.box (.tail _ (.tail _ (.tail _ (.head _)))); have z1 := M1.out.box (.tail _ (.tail _ (.head _))); have z2 := M1.out.box (.tail _ (.head _)); have z3 := M1.out.box (.head _)
  have i6 : IntKind.i64.wrap (ia + (k : Int)) = ia + (k : Int) := IntWalk.i64_in _ (by omega)
  have i7 : wrap64 (ia + (k : Int)) = ia + (k : Int) := wrap64_id (by omega) (by omega)
  by_cases hlt : k ≤ ib.toNat
  · have hle : (k : Int) ≤ ib := by omega
    go_wp2_with fail
    refine (spec_l16Reg.calls s.acc AR cR s.regs (ia + (k : Int)) 1 _ _ (Kd.C_below HR.out M1.out.below) HHC.out (spec_reg s (ia + (k : Int)) 1 hl)).mono ?_; rintro e w2 ⟨rfl, hb⟩
    have M2 := Aside0.mk (M1.out.step hb); clear hb M1 z0 z1 z2 z3
    rcases Bool.eq_false_or_eq_true (regIs s (ia + (k : Int)) 1) with hq | hq
    · rw [hq]
      go_wp2
      go_roundw
      case measure => simp [intOf]; omega
      case rel => exact ⟨k + 1, by go_num, by omega, by show (argsTo s ia k && regIs s (ia + (k : Int)) 1) = true; rw [hA, hq]; rfl, M2⟩
    · rw [hq]
      go_wp2
      go_ret
      exact ⟨by rw [show mayB x f ⟨16, ia, ib⟩ s = false from by unfold mayB; simp; exact args_no s ia hq (by omega)]; rfl, M2.out.below⟩
  · have hle : ¬ (k : Int) ≤ ib := by omega
    obtain rfl : k = ib.toNat + 1 := by omega
    go_wp2
    go_ret
    exact ⟨by rw [show mayB x f ⟨16, ia, ib⟩ s = true from by unfold mayB; simp; exact hA]; rfl, M1.out.below⟩
set_option maxHeartbeats 8000000 in
set_option maxRecDepth 100000 in
theorem may15 : MayAt 15 := by
  refine may_at 15 ?_
  rintro x j s ia ib c0 A1 c1 AR cR w f fa A2 c2 A3 c3 A4 c4 ⟨G0, HR, HJ, HFE, HC, HL0, HHC, j1, j2, hl, hx, ha, hb, hf, M0, p0, p1, p2, p3, p4, z0, z1, z2, z3⟩
  have hu := Try.underlying37; have hu1 := Try.underlying34; have hu2 := Try.underlying73; have hu3 := Try.underlying76; have hu4 := Try.underlying31; have hu5 := Try.underlying69; have hu6 := Try.underlying105
  go_enter Try.func54, Try.ntmps54
  obtain ⟨q, rfl⟩ : ∃ q : Nat, ia = q := ⟨ia.toNat, by omega⟩
  have i4 : IntKind.i64.wrap ((x.funcs.length : Int) - 1) = (x.funcs.length : Int) - 1 := IntWalk.i64_in _ (by omega)
  have i5 : wrap64 ((x.funcs.length : Int) - 1) = (x.funcs.length : Int) - 1 := wrap64_id (by omega) (by omega)
  go_wp2_with fail
  refine (spec_l01In.calls _ _ _ _ _ (Img.spec_in (q : Int) 1 ((x.funcs.length : Int) - 1))).mono ?_; rintro e w1 ⟨rfl, ⟨⟨n1, rfl⟩⟩⟩
  have M1 := Aside0.mk (M0.out.draw n1); clear M0 z0 z1 z2 z3 p0 p1 p2 p3 p4
  have z0 := M1.out.box (.tail _ (.tail _ (.tail _ (.head _)))); have z1 := M1.out.box (.tail _ (.tail _ (.head _))); have z2 := M1.out.box (.tail _ (.head _)); have z3 := M1.out.box (.head _)
  rcases Bool.eq_false_or_eq_true (Img.inB (q : Int) 1 ((x.funcs.length : Int) - 1)) with hd | hd
  rotate_left
  · rw [hd]
    go_wp2
    go_ret
    exact ⟨by unfold mayB; have h2 : decide (1 ≤ (q : Int) ∧ (q : Int) ≤ (x.funcs.length : Int) - 1) = false := hd; simp [h2], M1.out.below⟩
  rw [hd]
  have hq := of_decide_eq_true hd
  have HD := Aside0.mk hd; clear hd
  have hql : q < x.funcs.length := by omega
  have hq2 : (q : Int) < (x.funcs.length : Int) := by omega
  obtain ⟨fb, B2, e2, B3, e3, B4, e4, hfb, y0, y1, y2, y3, y4, gcap, gcode, ghan⟩ := func_at5 G0.out q hql
  have y2 := pw_cell_below M1.out.below y2
  cases hfb
  clear y0 y1 y3 y4 gcode ghan
  obtain ⟨caps, hcs⟩ : ∃ caps, caps = (el zFunc x.funcs q).caps := ⟨_, rfl⟩
  rw [← hcs] at y2 gcap
  have HCS := Aside0.mk hcs; have GCW := Aside0.mk gcap.2; clear hcs gcap
  have HE := Aside0.mk (show mayB x f ⟨15, (q : Int), ib⟩ s = capsTo f s caps caps.length from by unfold mayB; have h2 : decide (1 ≤ (q : Int) ∧ (q : Int) ≤ (x.funcs.length : Int) - 1) = true := HD.out; simp only [h2, HCS.out, Int.toNat_natCast]; simp)
  go_upto_region 31 with fail
  clear z0 z1 z2 z3 y2
  skip
  go_loopw [12] (fun v wx => ∃ k : Nat, v = .int .i64 k ∧ k ≤ caps.length ∧ capsTo f s caps k = true ∧ Aside0 (Mem w wx [Hold.box (w.heap.size + 3) #[.int .i64 f.params, .int .i64 f.regs, .slice A2 f.caps.length c2, .slice A3 f.code.length c3, .slice A4 f.handlers.length c4] 73, Hold.box (w.heap.size + 2) #[.int .i64 s.acc, .slice AR s.regs.length cR] 31, Hold.box (w.heap.size + 1) #[.int .i64 15, .int .i64 (q : Int), .int .i64 ib] 76, Hold.box (w.heap.size) #[.slice (some fa) x.funcs.length c0, .slice A1 x.consts.length c1] 37])) (fun v _ => caps.length - (intOf v).toNat)
  case atStart => exact ⟨0, rfl, by omega, rfl, M1⟩
  case round =>
  obtain ⟨k, rfl, hk, hA, M2⟩ := hrel
  have z0 := M2.out.box (.tail _ (.tail _ (.tail _ (.head _)))); have z1 := M2.out.box (.tail _ (.tail _ (.head _))); have z2 := M2.out.box (.tail _ (.head _)); have z3 := M2.out.box (.head _)
  have hcl : caps.length ≤ 9223372036854775807 := GCW.out.2.1
  by_cases hlt : k < caps.length
  · have hle : (k : Int) < (caps.length : Int) := by omega
    obtain ⟨ca, hca, cK, y0, y1⟩ := Cap_at (Kd.C_below GCW.out M2.out.below) k hlt
    cases hca
    clear cK
    obtain ⟨c, hce⟩ : ∃ c, c = el zCap caps k := ⟨_, rfl⟩
    rw [← hce] at y0 y1
    have HCE := Aside0.mk hce; clear hce
    obtain ⟨L, HL, ML⟩ := Mem.hide M2
    have E2 := Aside0.mk (show Hold.box (w.heap.size + 2) #[.int .i64 s.acc, .slice AR s.regs.length cR] 31 ∈ L from HL.out ▸ (.tail _ (.head _)))
    have E3 := Aside0.mk (show Hold.box (w.heap.size + 3) #[.int .i64 f.params, .int .i64 f.regs, .slice A2 f.caps.length c2, .slice A3 f.code.length c3, .slice A4 f.handlers.length c4] 73 ∈ L from HL.out ▸ (.head _))
    have LT := Aside0.mk (World.block_lt_of_cell? _ _ y0)
    clear M2
    have hcp : capB f s c = capB f s (el zCap caps k) := by rw [HCE.out]
    have MD := Aside0.mk ML.out.drew
    have Y0 := Aside0.mk y0; have Y1 := Aside0.mk y1
    go_upto_region 33 with fail
    clear z0 z1 z2 z3 y0 y1
    rcases Bool.eq_false_or_eq_true c.reg with hcr | hcr
    · rw [hcr] at Y0
      rcases Bool.eq_false_or_eq_true (regIs s c.index 2) with hq3 | hq3
      · have hcv : capB f s c = true := by unfold capB; rw [if_pos hcr]; exact hq3
        refine sz 34 (fun W => W.cell? ⟨w.heap.size + 2, 0, none⟩ = some (.int .i64 s.acc) ∧ W.cell? ⟨w.heap.size + 2, 1, none⟩ = some (.slice AR s.regs.length cR) ∧ W.cell? ⟨w.heap.size + 3, 2, none⟩ = some (.slice A2 f.caps.length c2) ∧ W.cell? (ca.add (k * 2)) = some (.bool true) ∧ W.cell? ⟨(ca.add (k * 2)).block, (ca.add (k * 2)).off + 1, none⟩ = some (.int .i64 c.index)) [] mayS.tab33 mayS.bits33 ⟨(MD.out.box E2.out 0).trans rfl, (MD.out.box E2.out 1).trans rfl, (MD.out.box E3.out 2).trans rfl, Y0.out, Y1.out⟩ (fun HT_ HW_ hHeld => ?_)
        refine pz 0 139 ?_; refine pz 1 140 ?_; refine pz 2 141 ?_; refine pz 3 142 ?_; refine tz 4 143 ?_; refine pz 5 144 ?_; refine pz 7 146 ?_; refine pz 8 147 ?_; refine pz 9 148 ?_; refine pz 10 149 ?_; refine tz 6 145 ?_; refine tz 11 150 ?_
        refine ez 12 (some 151) (fun K hK => ?_)
        refine gz Try.func95 #[.agg #[.int .i64 s.acc, .slice AR s.regs.length cR], .int .i64 c.index, .int .i64 2] ?_
        have C := spec_l16Reg.calls s.acc AR cR s.regs c.index 2 _ _ (Kd.C_below HR.out MD.out.below) HHC.out (spec_reg s c.index 2 hl)
        rw [hq3] at C
        refine C.mono ?_; clear C
        rintro e w5 ⟨rfl, hb⟩
        have M5 := Aside0.mk (MD.out.step hb); have Z0 := Aside0.mk (pw_cell_below hb Y0.out); have Z1 := Aside0.mk (pw_cell_below hb Y1.out); clear hb
        refine ⟨_, rfl, ?_⟩
        refine hK.out _ _ ⟨(M5.out.box E2.out 0).trans rfl, (M5.out.box E2.out 1).trans rfl, (M5.out.box E3.out 2).trans rfl, Z0.out, Z1.out⟩ (fun hHeld => ?_); clear hK K; refine kz (some 151) ?_
        refine pz 13 152 ?_; refine pz 14 153 ?_; refine pz 15 154 ?_; refine pz 16 155 ?_; refine pz 17 156 ?_; refine pz 18 157 ?_; refine pz 19 158 ?_; refine tz 20 159 ?_; refine pz 21 160 ?_; refine pz 22 161 ?_; refine oz 23 162 ?_; refine oz 24 163 ?_; refine oz 25 164 ?_; refine oz 26 165 ?_; refine oz 27 166 ?_; refine oz 28 167 ?_; refine oz 29 168 ?_; refine oz 30 169 ?_; refine oz 31 170 ?_; refine pz 32 171 ?_; refine pz 33 172 ?_
        refine dz ?_
        have hl3 := HL.out; subst hl3; clear HL E2 E3
        go_wp2
        go_roundw
        case measure => simp [intOf]; omega
        case rel => exact ⟨k + 1, by go_num, by omega, by show (capsTo f s caps k && capB f s (el zCap caps k)) = true; rw [hA, ← hcp, hcv]; rfl, M5⟩
      · have hcv : capB f s c = false := by unfold capB; rw [if_pos hcr]; exact hq3
        refine sz 34 (fun W => W.cell? ⟨w.heap.size + 2, 0, none⟩ = some (.int .i64 s.acc) ∧ W.cell? ⟨w.heap.size + 2, 1, none⟩ = some (.slice AR s.regs.length cR) ∧ W.cell? ⟨w.heap.size + 3, 2, none⟩ = some (.slice A2 f.caps.length c2) ∧ W.cell? (ca.add (k * 2)) = some (.bool true) ∧ W.cell? ⟨(ca.add (k * 2)).block, (ca.add (k * 2)).off + 1, none⟩ = some (.int .i64 c.index)) [] mayS.tab33 mayS.bits33 ⟨(MD.out.box E2.out 0).trans rfl, (MD.out.box E2.out 1).trans rfl, (MD.out.box E3.out 2).trans rfl, Y0.out, Y1.out⟩ (fun HT_ HW_ hHeld => ?_)
        refine pz 0 139 ?_; refine pz 1 140 ?_; refine pz 2 141 ?_; refine pz 3 142 ?_; refine tz 4 143 ?_; refine pz 5 144 ?_; refine pz 7 146 ?_; refine pz 8 147 ?_; refine pz 9 148 ?_; refine pz 10 149 ?_; refine tz 6 145 ?_; refine tz 11 150 ?_
        refine ez 12 (some 151) (fun K hK => ?_)
        refine gz Try.func95 #[.agg #[.int .i64 s.acc, .slice AR s.regs.length cR], .int .i64 c.index, .int .i64 2] ?_
        have C := spec_l16Reg.calls s.acc AR cR s.regs c.index 2 _ _ (Kd.C_below HR.out MD.out.below) HHC.out (spec_reg s c.index 2 hl)
        rw [hq3] at C
        refine C.mono ?_; clear C
        rintro e w5 ⟨rfl, hb⟩
        have M5 := Aside0.mk (MD.out.step hb); have Z0 := Aside0.mk (pw_cell_below hb Y0.out); have Z1 := Aside0.mk (pw_cell_below hb Y1.out); clear hb
        refine ⟨_, rfl, ?_⟩
        refine hK.out _ _ ⟨(M5.out.box E2.out 0).trans rfl, (M5.out.box E2.out 1).trans rfl, (M5.out.box E3.out 2).trans rfl, Z0.out, Z1.out⟩ (fun hHeld => ?_); clear hK K; refine kz (some 151) ?_
        refine pz 13 152 ?_; refine pz 14 153 ?_; refine pz 15 154 ?_; refine oz 16 155 ?_; refine oz 17 156 ?_; refine oz 18 157 ?_; refine oz 19 158 ?_; refine oz 20 159 ?_; refine oz 21 160 ?_; refine oz 22 161 ?_; refine oz 23 162 ?_; refine oz 24 163 ?_; refine oz 25 164 ?_; refine oz 26 165 ?_; refine oz 27 166 ?_; refine oz 28 167 ?_; refine oz 29 168 ?_; refine oz 30 169 ?_; refine oz 31 170 ?_; refine oz 32 171 ?_; refine pz 33 172 ?_
        refine dz ?_
        have hl3 := HL.out; subst hl3; clear HL E2 E3
        go_wp2
        go_ret
        exact ⟨by rw [HE.out, caps_no f s caps (k := k) (by rw [← hcp]; exact hcv) hlt]; rfl, M5.out.below⟩
    · rw [hcr] at Y0
      rcases Bool.eq_false_or_eq_true (decide (c.index < (f.caps.length : Int))) with hq3 | hq3
      · have hcv : capB f s c = true := by unfold capB; rw [hcr]; exact hq3
        have hq4 : decide ((f.caps.length : Int) ≤ c.index) = false := by have h := of_decide_eq_true hq3; simp; omega
        refine sz 34 (fun W => W.cell? ⟨w.heap.size + 2, 0, none⟩ = some (.int .i64 s.acc) ∧ W.cell? ⟨w.heap.size + 2, 1, none⟩ = some (.slice AR s.regs.length cR) ∧ W.cell? ⟨w.heap.size + 3, 2, none⟩ = some (.slice A2 f.caps.length c2) ∧ W.cell? (ca.add (k * 2)) = some (.bool false) ∧ W.cell? ⟨(ca.add (k * 2)).block, (ca.add (k * 2)).off + 1, none⟩ = some (.int .i64 c.index)) [] mayS.tab33 mayS.bits33 ⟨(MD.out.box E2.out 0).trans rfl, (MD.out.box E2.out 1).trans rfl, (MD.out.box E3.out 2).trans rfl, Y0.out, Y1.out⟩ (fun HT_ HW_ hHeld => ?_)
        refine pz 0 139 ?_; refine pz 1 140 ?_; refine pz 2 141 ?_; refine pz 3 142 ?_; refine tz 4 143 ?_; refine pz 5 144 ?_; refine oz 6 145 ?_; refine oz 7 146 ?_; refine oz 8 147 ?_; refine oz 9 148 ?_; refine oz 10 149 ?_; refine oz 11 150 ?_; refine oz 12 151 ?_; refine oz 13 152 ?_; refine pz 14 153 ?_; refine pz 15 154 ?_; refine pz 16 155 ?_; refine pz 17 156 ?_; refine pz 18 157 ?_; refine pz 19 158 ?_; refine tz 20 159 ?_; refine pz 21 160 ?_; refine pz 22 161 ?_; refine pz 23 162 ?_; refine pz 24 163 ?_; refine pz 25 164 ?_; refine pz 26 165 ?_; refine pz 28 167 ?_; refine tz 27 166 ?_; refine tz 29 168 ?_; refine pz 30 169 ?_; refine pz 31 170 ?_; refine pz 32 171 ?_; refine pz 33 172 ?_
        refine dz ?_
        have hl3 := HL.out; subst hl3; clear HL E2 E3
        go_wp2
        go_roundw
        case measure => simp [intOf]; omega
        case rel => exact ⟨k + 1, by go_num, by omega, by show (capsTo f s caps k && capB f s (el zCap caps k)) = true; rw [hA, ← hcp, hcv]; rfl, MD⟩
      · have hcv : capB f s c = false := by unfold capB; rw [hcr]; exact hq3
        have hq4 : decide ((f.caps.length : Int) ≤ c.index) = true := by have h := of_decide_eq_false hq3; simp; omega
        refine sz 34 (fun W => W.cell? ⟨w.heap.size + 2, 0, none⟩ = some (.int .i64 s.acc) ∧ W.cell? ⟨w.heap.size + 2, 1, none⟩ = some (.slice AR s.regs.length cR) ∧ W.cell? ⟨w.heap.size + 3, 2, none⟩ = some (.slice A2 f.caps.length c2) ∧ W.cell? (ca.add (k * 2)) = some (.bool false) ∧ W.cell? ⟨(ca.add (k * 2)).block, (ca.add (k * 2)).off + 1, none⟩ = some (.int .i64 c.index)) [] mayS.tab33 mayS.bits33 ⟨(MD.out.box E2.out 0).trans rfl, (MD.out.box E2.out 1).trans rfl, (MD.out.box E3.out 2).trans rfl, Y0.out, Y1.out⟩ (fun HT_ HW_ hHeld => ?_)
        refine pz 0 139 ?_; refine pz 1 140 ?_; refine pz 2 141 ?_; refine pz 3 142 ?_; refine tz 4 143 ?_; refine pz 5 144 ?_; refine oz 6 145 ?_; refine oz 7 146 ?_; refine oz 8 147 ?_; refine oz 9 148 ?_; refine oz 10 149 ?_; refine oz 11 150 ?_; refine oz 12 151 ?_; refine oz 13 152 ?_; refine pz 14 153 ?_; refine pz 15 154 ?_; refine pz 16 155 ?_; refine pz 17 156 ?_; refine pz 18 157 ?_; refine pz 19 158 ?_; refine tz 20 159 ?_; refine pz 21 160 ?_; refine pz 22 161 ?_; refine pz 23 162 ?_; refine pz 24 163 ?_; refine pz 25 164 ?_; refine pz 26 165 ?_; refine pz 28 167 ?_; refine tz 27 166 ?_; refine tz 29 168 ?_; refine pz 30 169 ?_; refine pz 31 170 ?_; refine pz 32 171 ?_; refine pz 33 172 ?_
        refine dz ?_
        have hl3 := HL.out; subst hl3; clear HL E2 E3
        go_wp2
        go_ret
        exact ⟨by rw [HE.out, caps_no f s caps (k := k) (by rw [← hcp]; exact hcv) hlt]; rfl, MD.out.below⟩
  · have hle : ¬ (k : Int) < (caps.length : Int) := by omega
    obtain rfl : k = caps.length := by omega
    go_wp2
    go_ret
    exact ⟨by rw [HE.out, hA]; rfl, M2.out.below⟩
theorem cMayS (x : Image) (j : Nat) (s : State) (i : Ins) (A0 : Option Addr) (c0 : Nat) (A1 : Option Addr) (c1 : Nat) (AR : Option Addr) (cR : Nat) (w : World) (l0 : x.funcs.length ≤ c0) (g0 : kFuncI.C w A0 x.funcs.length x.funcs) (hj : j < x.funcs.length) (hr : (Kd.int .i64).C w AR s.regs.length s.regs) (hc : s.regs.length ≤ cR) (hl : s.regs.length ≤ 1048576) (hx : x.funcs.length ≤ 1048576) (ho : 1 ≤ i.op ∧ i.op ≤ 19) (ha : 0 ≤ i.a ∧ i.a ≤ 300) (hb : 0 ≤ i.b ∧ i.b ≤ 300) (hf : (el zFunc x.funcs j).caps.length ≤ 1048576) :
    Calls Try.prog 54 #[.agg #[.slice A0 x.funcs.length c0, .slice A1 x.consts.length c1], .int .i64 j, .agg #[.int .i64 i.op, .int .i64 i.a, .int .i64 i.b], .agg #[.int .i64 s.acc, .slice AR s.regs.length cR]] w fun e w' => e = .returned (.bool (mayB x (el zFunc x.funcs j) i s)) ∧ Below w.heap.size w w' := by
  obtain ⟨o, a, b⟩ := i
  have h : o = 1 ∨ o = 2 ∨ o = 3 ∨ o = 4 ∨ o = 5 ∨ o = 6 ∨ o = 7 ∨ o = 8 ∨ o = 9 ∨ o = 10 ∨ o = 11 ∨ o = 12 ∨ o = 13 ∨ o = 14 ∨ o = 15 ∨ o = 16 ∨ o = 17 ∨ o = 18 ∨ o = 19 := by have h := ho; simp only at h; omega
  rcases h with rfl | rfl | rfl | rfl | rfl | rfl | rfl | rfl | rfl | rfl | rfl | rfl | rfl | rfl | rfl | rfl | rfl | rfl | rfl
  · exact may1 x j s a b A0 c0 A1 c1 AR cR w l0 g0 hj hr hc hl hx ha hb hf
  · exact may2 x j s a b A0 c0 A1 c1 AR cR w l0 g0 hj hr hc hl hx ha hb hf
  · exact may3 x j s a b A0 c0 A1 c1 AR cR w l0 g0 hj hr hc hl hx ha hb hf
  · exact may4 x j s a b A0 c0 A1 c1 AR cR w l0 g0 hj hr hc hl hx ha hb hf
  · exact may5 x j s a b A0 c0 A1 c1 AR cR w l0 g0 hj hr hc hl hx ha hb hf
  · exact may6 x j s a b A0 c0 A1 c1 AR cR w l0 g0 hj hr hc hl hx ha hb hf
  · exact may7 x j s a b A0 c0 A1 c1 AR cR w l0 g0 hj hr hc hl hx ha hb hf
  · exact may8 x j s a b A0 c0 A1 c1 AR cR w l0 g0 hj hr hc hl hx ha hb hf
  · exact may9 x j s a b A0 c0 A1 c1 AR cR w l0 g0 hj hr hc hl hx ha hb hf
  · exact may10 x j s a b A0 c0 A1 c1 AR cR w l0 g0 hj hr hc hl hx ha hb hf
  · exact may11 x j s a b A0 c0 A1 c1 AR cR w l0 g0 hj hr hc hl hx ha hb hf
  · exact may12 x j s a b A0 c0 A1 c1 AR cR w l0 g0 hj hr hc hl hx ha hb hf
  · exact may13 x j s a b A0 c0 A1 c1 AR cR w l0 g0 hj hr hc hl hx ha hb hf
  · exact may14 x j s a b A0 c0 A1 c1 AR cR w l0 g0 hj hr hc hl hx ha hb hf
  · exact may15 x j s a b A0 c0 A1 c1 AR cR w l0 g0 hj hr hc hl hx ha hb hf
  · exact may16 x j s a b A0 c0 A1 c1 AR cR w l0 g0 hj hr hc hl hx ha hb hf
  · exact may17 x j s a b A0 c0 A1 c1 AR cR w l0 g0 hj hr hc hl hx ha hb hf
  · exact may18 x j s a b A0 c0 A1 c1 AR cR w l0 g0 hj hr hc hl hx ha hb hf
  · exact may19 x j s a b A0 c0 A1 c1 AR cR w l0 g0 hj hr hc hl hx ha hb hf
end Go.Proofs.Ytcbaokflimdjnaa.Flow
end
section
namespace Go.Proofs.Ytcbaokflimdjnaa.QFnExactVerify
open Go.RowKit Go.Proofs.YtcbaokflimdjnaaW.PrintWords Go.Proofs.YtcbaokflimdjnaaW.PrintLast Go.Proofs.YtcbaokflimdjnaaW.PrintMore
attribute [local go_sem] max_two min_two max_three min_three max_four min_four run_field194_0 max2_mx min2_mn   -- for this text's walks alone
set_option linter.unusedVariables false
set_option linter.unusedSimpArgs false
def slices_Equal_int_int.l0 : Nat → List Int → List Int → Int → Int → Option (Bool)
  | 0, _, _, _, _ => none
  | k + 1, x0, x1, x12, x13 => if x13 < x12 then (if 0 ≤ x13 then (if x13 < (x0.length : Int) then (if x13 < (x1.length : Int) then (if (rd x0 x13) = (rd x1 x13) then (slices_Equal_int_int.l0 k x0 x1 x12 (wrap64 (x13 + 1))) else (some false)) else (none)) else (none)) else (none)) else (some true)
def slices_Equal_int_int.f (k : Nat) (l0 : List Int) (l1 : List Int) : Option (Bool) := if (l0.length : Int) = (l1.length : Int) then (slices_Equal_int_int.l0 k l0 l1 (l0.length : Int) 0) else (some false)
theorem slices_Equal_int_int.mono_l : ∀ k, (∀ y0 y1 y2 y3, LeO (slices_Equal_int_int.l0 k y0 y1 y2 y3) (slices_Equal_int_int.l0 (k + 1) y0 y1 y2 y3))
  | 0 => fun _ _ _ _ r h => by simp [slices_Equal_int_int.l0] at h
  | k + 1 => by
    have ih0 := slices_Equal_int_int.mono_l k
    · intro y0 y1 y2 y3
      unfold slices_Equal_int_int.l0
      repeat' first
      | (with_reducible exact ih0 _ _ _ _)
      | (with_reducible exact LeO.refl _)
      | (with_reducible exact LeO.none _)
      | (with_reducible refine LeO.ite ?_ ?_)
      | (with_reducible refine LeO.bind ?_ (fun _ => ?_))
      | exact ih0 _ _ _ _
      | exact LeO.none _
      | refine LeO.ite ?_ ?_
      | refine LeO.bind ?_ (fun _ => ?_)
theorem slices_Equal_int_int.mono : ∀ a0 a1 k, LeO (slices_Equal_int_int.f k a0 a1) (slices_Equal_int_int.f (k + 1) a0 a1) := by
  intro a0 a1 k
  have ih0 := slices_Equal_int_int.mono_l k
  unfold slices_Equal_int_int.f
  repeat' first
      | (with_reducible exact ih0 _ _ _ _)
      | (with_reducible exact LeO.refl _)
      | (with_reducible exact LeO.none _)
      | (with_reducible refine LeO.ite ?_ ?_)
      | (with_reducible refine LeO.bind ?_ (fun _ => ?_))
      | exact ih0 _ _ _ _
      | exact LeO.none _
      | refine LeO.ite ?_ ?_
      | refine LeO.bind ?_ (fun _ => ?_)
set_option maxHeartbeats 8000000 in
set_option maxRecDepth 100000 in
theorem slices_Equal_int_int.calls (k : Nat) (A0 : Option Addr) (c0 : Nat) (l0 : List Int) (A1 : Option Addr) (c1 : Nat) (l1 : List Int) (r : Bool) (w : World) (hr0 : Kd.C (Kd.int .i64) w A0 l0.length l0) (hc0 : l0.length ≤ c0) (hr1 : Kd.C (Kd.int .i64) w A1 l1.length l1) (hc1 : l1.length ≤ c1) (h : slices_Equal_int_int.f k l0 l1 = some r) :
    Calls Try.prog 145 #[.slice A0 l0.length c0, .slice A1 l1.length c1] w fun e w' => e = .returned (.bool r) ∧ Drawn0 w w' := by
  have HR0 := Aside0.mk hr0
  have HC0 := Aside0.mk hc0
  clear hr0 hc0
  have HR1 := Aside0.mk hr1
  have HC1 := Aside0.mk hc1
  clear hr1 hc1
  have H : (if (l0.length : Int) = (l1.length : Int) then (slices_Equal_int_int.l0 k l0 l1 (l0.length : Int) 0) else (some false)) = some r := h
  clear h
  by_cases c3 : (l0.length : Int) = (l1.length : Int)
  · rw [if_pos c3] at H
    have c3b0 : ((l0.length : Int) == (l1.length : Int)) = true := beq_iff_eq.mpr c3
    have c3b1 : ((l0.length : Int) != (l1.length : Int)) = false := bne_eq_false_iff_eq.mpr c3
    have c3b2 : (l0.length == l1.length) = true := by first | simpa using c3 | (simp at c3 ⊢; omega)
    clear c3
    have H' := Aside0.mk H
    clear H
    go_enter Try.func145, Try.ntmps145
    go_wp2
    repeat (go_quiet (fail); try go_wp2)
    go_loopg [13] k (fun kq v13 w' => ∃ (x13_1 : Int), v13 = .int .i64 x13_1 ∧ Aside0 (slices_Equal_int_int.l0 kq l0 l1 (l0.length : Int) x13_1 = some r) ∧ Aside0 (kq ≤ k) ∧ Drawn0 w w')
    case atStart => exact ⟨(0), (by first | rfl | (simp; done) | (simp [*]; done)), H', ⟨Nat.le_refl _⟩, by repeat (first | exact Drawn0.refl _ | apply Drawn0.step)⟩
    case round =>
      clear H'
      try clear c1
      try clear p2
      try clear c3
      try clear c3b0
      try clear c3b1
      try clear c3b2
      obtain ⟨x13_1, rfl, HA, HK1, ⟨m1, rfl⟩⟩ := hrel
      cases gk with
      | zero => exact absurd HA.out (by simp [slices_Equal_int_int.l0])
      | succ k1 =>
        have H := HA.out
        clear HA
        simp only [slices_Equal_int_int.l0] at H
        by_cases c4 : x13_1 < (l0.length : Int)
        · rw [if_pos c4] at H
          have c4b0 : decide (x13_1 < (l0.length : Int)) = true := decide_eq_true c4
          clear c4
          by_cases c5 : 0 ≤ x13_1
          · rw [if_pos c5] at H
            have c5b0 : decide (0 ≤ x13_1) = true := decide_eq_true c5
            clear c5
            by_cases c6 : x13_1 < (l0.length : Int)
            · rw [if_pos c6] at H
              have c6b0 : decide (x13_1 < (l0.length : Int)) = true := decide_eq_true c6
              clear c6
              by_cases c7 : x13_1 < (l1.length : Int)
              · rw [if_pos c7] at H
                have c7b0 : decide (x13_1 < (l1.length : Int)) = true := decide_eq_true c7
                clear c7
                by_cases c8 : (rd l0 x13_1) = (rd l1 x13_1)
                · rw [if_pos c8] at H
                  have c8b0 : ((rd l0 x13_1) == (rd l1 x13_1)) = true := beq_iff_eq.mpr c8
                  have c8b1 : ((rd l0 x13_1) != (rd l1 x13_1)) = false := bne_eq_false_iff_eq.mpr c8
                  clear c8
                  have H' := Aside0.mk H
                  clear H
                  have p396 : 0 ≤ (x13_1 : Int) := of_decide_eq_true (by first | (with_reducible assumption) | assumption)
                  have q396 : x13_1 < (l0.length : Int) := of_decide_eq_true (by first | (with_reducible assumption) | assumption)
                  obtain ⟨ad396, e396, hx396_0⟩ := Kd.at_int HR0.out x13_1 p396 q396
                  cases e396
                  replace p396 := eq_true p396
                  replace q396 := eq_true q396
                  have p397 : 0 ≤ (x13_1 : Int) := of_decide_eq_true (by first | (with_reducible assumption) | assumption)
                  have q397 : x13_1 < (l1.length : Int) := of_decide_eq_true (by first | (with_reducible assumption) | assumption)
                  obtain ⟨ad397, e397, hx397_0⟩ := Kd.at_int HR1.out x13_1 p397 q397
                  cases e397
                  replace p397 := eq_true p397
                  replace q397 := eq_true q397
                  go_wp2
                  repeat (go_quiet (fail); try go_wp2)
                  go_roundg k1
                  case measure => have := HK1.out; omega
                  case rel => exact ⟨(wrap64 (x13_1 + 1)), (by first | rfl | (simp; done) | (simp [*]; done)), H', ⟨by have := HK1.out; omega⟩, by repeat (first | exact Drawn0.refl _ | apply Drawn0.step)⟩
                · rw [if_neg c8] at H
                  have c8b0 : ((rd l0 x13_1) == (rd l1 x13_1)) = false := beq_eq_false_iff_ne.mpr c8
                  have c8b1 : ((rd l0 x13_1) != (rd l1 x13_1)) = true := bne_iff_ne.mpr c8
                  obtain rfl := Option.some.inj H
                  have p396 : 0 ≤ (x13_1 : Int) := of_decide_eq_true (by first | (with_reducible assumption) | assumption)
                  have q396 : x13_1 < (l0.length : Int) := of_decide_eq_true (by first | (with_reducible assumption) | assumption)
                  obtain ⟨ad396, e396, hx396_0⟩ := Kd.at_int HR0.out x13_1 p396 q396
                  cases e396
                  replace p396 := eq_true p396
                  replace q396 := eq_true q396
                  have p397 : 0 ≤ (x13_1 : Int) := of_decide_eq_true (by first | (with_reducible assumption) | assumption)
                  have q397 : x13_1 < (l1.length : Int) := of_decide_eq_true (by first | (with_reducible assumption) | assumption)
                  obtain ⟨ad397, e397, hx397_0⟩ := Kd.at_int HR1.out x13_1 p397 q397
                  cases e397
                  replace p397 := eq_true p397
                  replace q397 := eq_true q397
                  go_wp2
                  repeat (go_quiet (fail); try go_wp2)
                  go_ret
                  exact ⟨by first | rfl | (simp; done) | (simp [*]; done), by repeat (first | exact Drawn0.refl _ | apply Drawn0.step)⟩
              · rw [if_neg c7] at H
                exact absurd H (by simp)
            · rw [if_neg c6] at H
              exact absurd H (by simp)
          · rw [if_neg c5] at H
            exact absurd H (by simp)
        · rw [if_neg c4] at H
          have c4b0 : decide (x13_1 < (l0.length : Int)) = false := decide_eq_false c4
          clear c4
          obtain rfl := Option.some.inj H
          go_wp2
          repeat (go_quiet (fail); try go_wp2)
          go_ret
          exact ⟨by first | rfl | (simp; done) | (simp [*]; done), by repeat (first | exact Drawn0.refl _ | apply Drawn0.step)⟩
  · rw [if_neg c3] at H
    have c3b0 : ((l0.length : Int) == (l1.length : Int)) = false := beq_eq_false_iff_ne.mpr c3
    have c3b1 : ((l0.length : Int) != (l1.length : Int)) = true := bne_iff_ne.mpr c3
    have c3b2 : (l0.length == l1.length) = false := by first | simpa using c3 | (simp at c3 ⊢; omega)
    obtain rfl := Option.some.inj H
    go_enter Try.func145, Try.ntmps145
    go_wp2
    repeat (go_quiet (fail); try go_wp2)
    go_ret
    exact ⟨by first | rfl | (simp; done) | (simp [*]; done), by repeat (first | exact Drawn0.refl _ | apply Drawn0.step)⟩
-- NOT PRINTED: function 111 (impl_flow_come)
def impl_takesAcc.f (a0 : Int) : Option (Bool) := if a0 = 3 then (some true) else (if a0 = 4 then (some true) else (if a0 = 6 then (some true) else (if a0 = 8 then (some true) else (if a0 = 9 then (some true) else (if a0 = 10 then (some true) else (if a0 = 11 then (some true) else (if a0 = 17 then (some true) else (if a0 = 18 then (some true) else (if a0 = 19 then (some true) else (if a0 = 14 then (some true) else (if a0 = 13 then (some true) else (some false))))))))))))
set_option maxHeartbeats 8000000 in
set_option maxRecDepth 100000 in
theorem impl_takesAcc.calls (a0 : Int) (r : Bool) (w : World) (h : impl_takesAcc.f a0 = some r) :
    Calls Try.prog 136 #[.int .i64 a0] w fun e w' => e = .returned (.bool r) ∧ Drawn0 w w' := by
  have H : (if a0 = 3 then (some true) else (if a0 = 4 then (some true) else (if a0 = 6 then (some true) else (if a0 = 8 then (some true) else (if a0 = 9 then (some true) else (if a0 = 10 then (some true) else (if a0 = 11 then (some true) else (if a0 = 17 then (some true) else (if a0 = 18 then (some true) else (if a0 = 19 then (some true) else (if a0 = 14 then (some true) else (if a0 = 13 then (some true) else (some false))))))))))))) = some r := h
  clear h
  by_cases c2 : a0 = 3
  · rw [if_pos c2] at H
    have c2b0 : (a0 == 3) = true := beq_iff_eq.mpr c2
    have c2b1 : (a0 != 3) = false := bne_eq_false_iff_eq.mpr c2
    clear c2
    obtain rfl := Option.some.inj H
    go_enter Try.func136, Try.ntmps136
    go_wp2
    go_ret
    exact ⟨by first | rfl | (simp; done) | (simp [*]; done), by repeat (first | exact Drawn0.refl _ | apply Drawn0.step)⟩
  · rw [if_neg c2] at H
    have c2b0 : (a0 == 3) = false := beq_eq_false_iff_ne.mpr c2
    have c2b1 : (a0 != 3) = true := bne_iff_ne.mpr c2
    by_cases c3 : a0 = 4
    · rw [if_pos c3] at H
      have c3b0 : (a0 == 4) = true := beq_iff_eq.mpr c3
      have c3b1 : (a0 != 4) = false := bne_eq_false_iff_eq.mpr c3
      clear c3
      obtain rfl := Option.some.inj H
      go_enter Try.func136, Try.ntmps136
      go_wp2
      go_ret
      exact ⟨by first | rfl | (simp; done) | (simp [*]; done), by repeat (first | exact Drawn0.refl _ | apply Drawn0.step)⟩
    · rw [if_neg c3] at H
      have c3b0 : (a0 == 4) = false := beq_eq_false_iff_ne.mpr c3
      have c3b1 : (a0 != 4) = true := bne_iff_ne.mpr c3
      by_cases c4 : a0 = 6
      · rw [if_pos c4] at H
        have c4b0 : (a0 == 6) = true := beq_iff_eq.mpr c4
        have c4b1 : (a0 != 6) = false := bne_eq_false_iff_eq.mpr c4
        clear c4
        obtain rfl := Option.some.inj H
        go_enter Try.func136, Try.ntmps136
        go_wp2
        go_ret
        exact ⟨by first | rfl | (simp; done) | (simp [*]; done), by repeat (first | exact Drawn0.refl _ | apply Drawn0.step)⟩
      · rw [if_neg c4] at H
        have c4b0 : (a0 == 6) = false := beq_eq_false_iff_ne.mpr c4
        have c4b1 : (a0 != 6) = true := bne_iff_ne.mpr c4
        by_cases c5 : a0 = 8
        · rw [if_pos c5] at H
          have c5b0 : (a0 == 8) = true := beq_iff_eq.mpr c5
          have c5b1 : (a0 != 8) = false := bne_eq_false_iff_eq.mpr c5
          clear c5
          obtain rfl := Option.some.inj H
          go_enter Try.func136, Try.ntmps136
          go_wp2
          go_ret
          exact ⟨by first | rfl | (simp; done) | (simp [*]; done), by repeat (first | exact Drawn0.refl _ | apply Drawn0.step)⟩
        · rw [if_neg c5] at H
          have c5b0 : (a0 == 8) = false := beq_eq_false_iff_ne.mpr c5
          have c5b1 : (a0 != 8) = true := bne_iff_ne.mpr c5
          by_cases c6 : a0 = 9
          · rw [if_pos c6] at H
            have c6b0 : (a0 == 9) = true := beq_iff_eq.mpr c6
            have c6b1 : (a0 != 9) = false := bne_eq_false_iff_eq.mpr c6
            clear c6
            obtain rfl := Option.some.inj H
            go_enter Try.func136, Try.ntmps136
            go_wp2
            go_ret
            exact ⟨by first | rfl | (simp; done) | (simp [*]; done), by repeat (first | exact Drawn0.refl _ | apply Drawn0.step)⟩
          · rw [if_neg c6] at H
            have c6b0 : (a0 == 9) = false := beq_eq_false_iff_ne.mpr c6
            have c6b1 : (a0 != 9) = true := bne_iff_ne.mpr c6
            by_cases c7 : a0 = 10
            · rw [if_pos c7] at H
              have c7b0 : (a0 == 10) = true := beq_iff_eq.mpr c7
              have c7b1 : (a0 != 10) = false := bne_eq_false_iff_eq.mpr c7
              clear c7
              obtain rfl := Option.some.inj H
              go_enter Try.func136, Try.ntmps136
              go_wp2
              go_ret
              exact ⟨by first | rfl | (simp; done) | (simp [*]; done), by repeat (first | exact Drawn0.refl _ | apply Drawn0.step)⟩
            · rw [if_neg c7] at H
              have c7b0 : (a0 == 10) = false := beq_eq_false_iff_ne.mpr c7
              have c7b1 : (a0 != 10) = true := bne_iff_ne.mpr c7
              by_cases c8 : a0 = 11
              · rw [if_pos c8] at H
                have c8b0 : (a0 == 11) = true := beq_iff_eq.mpr c8
                have c8b1 : (a0 != 11) = false := bne_eq_false_iff_eq.mpr c8
                clear c8
                obtain rfl := Option.some.inj H
                go_enter Try.func136, Try.ntmps136
                go_wp2
                go_ret
                exact ⟨by first | rfl | (simp; done) | (simp [*]; done), by repeat (first | exact Drawn0.refl _ | apply Drawn0.step)⟩
              · rw [if_neg c8] at H
                have c8b0 : (a0 == 11) = false := beq_eq_false_iff_ne.mpr c8
                have c8b1 : (a0 != 11) = true := bne_iff_ne.mpr c8
                by_cases c9 : a0 = 17
                · rw [if_pos c9] at H
                  have c9b0 : (a0 == 17) = true := beq_iff_eq.mpr c9
                  have c9b1 : (a0 != 17) = false := bne_eq_false_iff_eq.mpr c9
                  clear c9
                  obtain rfl := Option.some.inj H
                  go_enter Try.func136, Try.ntmps136
                  go_wp2
                  go_ret
                  exact ⟨by first | rfl | (simp; done) | (simp [*]; done), by repeat (first | exact Drawn0.refl _ | apply Drawn0.step)⟩
                · rw [if_neg c9] at H
                  have c9b0 : (a0 == 17) = false := beq_eq_false_iff_ne.mpr c9
                  have c9b1 : (a0 != 17) = true := bne_iff_ne.mpr c9
                  by_cases c10 : a0 = 18
                  · rw [if_pos c10] at H
                    have c10b0 : (a0 == 18) = true := beq_iff_eq.mpr c10
                    have c10b1 : (a0 != 18) = false := bne_eq_false_iff_eq.mpr c10
                    clear c10
                    obtain rfl := Option.some.inj H
                    go_enter Try.func136, Try.ntmps136
                    go_wp2
                    go_ret
                    exact ⟨by first | rfl | (simp; done) | (simp [*]; done), by repeat (first | exact Drawn0.refl _ | apply Drawn0.step)⟩
                  · rw [if_neg c10] at H
                    have c10b0 : (a0 == 18) = false := beq_eq_false_iff_ne.mpr c10
                    have c10b1 : (a0 != 18) = true := bne_iff_ne.mpr c10
                    by_cases c11 : a0 = 19
                    · rw [if_pos c11] at H
                      have c11b0 : (a0 == 19) = true := beq_iff_eq.mpr c11
                      have c11b1 : (a0 != 19) = false := bne_eq_false_iff_eq.mpr c11
                      clear c11
                      obtain rfl := Option.some.inj H
                      go_enter Try.func136, Try.ntmps136
                      go_wp2
                      go_ret
                      exact ⟨by first | rfl | (simp; done) | (simp [*]; done), by repeat (first | exact Drawn0.refl _ | apply Drawn0.step)⟩
                    · rw [if_neg c11] at H
                      have c11b0 : (a0 == 19) = false := beq_eq_false_iff_ne.mpr c11
                      have c11b1 : (a0 != 19) = true := bne_iff_ne.mpr c11
                      by_cases c12 : a0 = 14
                      · rw [if_pos c12] at H
                        have c12b0 : (a0 == 14) = true := beq_iff_eq.mpr c12
                        have c12b1 : (a0 != 14) = false := bne_eq_false_iff_eq.mpr c12
                        clear c12
                        obtain rfl := Option.some.inj H
                        go_enter Try.func136, Try.ntmps136
                        go_wp2
                        go_ret
                        exact ⟨by first | rfl | (simp; done) | (simp [*]; done), by repeat (first | exact Drawn0.refl _ | apply Drawn0.step)⟩
                      · rw [if_neg c12] at H
                        have c12b0 : (a0 == 14) = false := beq_eq_false_iff_ne.mpr c12
                        have c12b1 : (a0 != 14) = true := bne_iff_ne.mpr c12
                        by_cases c13 : a0 = 13
                        · rw [if_pos c13] at H
                          have c13b0 : (a0 == 13) = true := beq_iff_eq.mpr c13
                          have c13b1 : (a0 != 13) = false := bne_eq_false_iff_eq.mpr c13
                          clear c13
                          obtain rfl := Option.some.inj H
                          go_enter Try.func136, Try.ntmps136
                          go_wp2
                          go_ret
                          exact ⟨by first | rfl | (simp; done) | (simp [*]; done), by repeat (first | exact Drawn0.refl _ | apply Drawn0.step)⟩
                        · rw [if_neg c13] at H
                          have c13b0 : (a0 == 13) = false := beq_eq_false_iff_ne.mpr c13
                          have c13b1 : (a0 != 13) = true := bne_iff_ne.mpr c13
                          obtain rfl := Option.some.inj H
                          go_enter Try.func136, Try.ntmps136
                          go_wp2
                          go_ret
                          exact ⟨by first | rfl | (simp; done) | (simp [*]; done), by repeat (first | exact Drawn0.refl _ | apply Drawn0.step)⟩
end Go.Proofs.Ytcbaokflimdjnaa.QFnExactVerify
end
section
namespace Go.Proofs.Ytcbaokflimdjnaa.Flow
open Go.RowKit Go.Proofs.YtcbaokflimdjnaaW.PrintWords Go.Proofs.YtcbaokflimdjnaaW.PrintLast Go.Proofs.Ytcbaokflimdjnaa.Steps Go.Proofs.YtcbaokflimdjnaaW.PrintMore Go.Proofs.Ytcbaokflimdjnaa.Law Go.Proofs.Ytcbaokflimdjnaa Go.Proofs.Ytcbaokflimdjnaa.QFnExactVerify Go.Proofs.Ytcbaokflimdjnaa.Num
set_option linter.unusedVariables false
set_option linter.unusedSimpArgs false
set_option autoImplicit false
set_option maxHeartbeats 8000000 in
set_option maxRecDepth 100000 in
theorem cIsReg (gs : Nat) (s : State) (r v : Int) (AR : Option Addr) (cR : Nat) (w : World) (hs1 : w.cell? ⟨gs, 1, none⟩ = some (.slice AR s.regs.length cR)) (hr : (Kd.int .i64).C w AR s.regs.length s.regs) (hl : s.regs.length ≤ 1048576) :
    Calls Try.prog 137 #[.pointer (some ⟨gs, 0, none⟩), .int .i64 r, .int .i64 v] w fun e w' => e = .returned (.bool (regIs s r v)) ∧ Below w.heap.size w w' := by
  have hu := Try.underlying31
  have HR := Aside0.mk hr; clear hr
  have i4 : IntKind.i64.wrap ((s.regs.length : Int) - 1) = (s.regs.length : Int) - 1 := IntWalk.i64_in _ (by omega)
  have i5 : wrap64 ((s.regs.length : Int) - 1) = (s.regs.length : Int) - 1 := wrap64_id (by omega) (by omega)
  go_enter Try.func137, Try.ntmps137
  go_wp2_with fail
  refine (impl_within.calls _ _ _ _ _ (Img.impl_in r 0 ((s.regs.length : Int) - 1))).mono ?_; rintro e w1 ⟨rfl, ⟨⟨n1, rfl⟩⟩⟩
  rcases Bool.eq_false_or_eq_true (Img.inB r 0 ((s.regs.length : Int) - 1)) with hd | hd
  rotate_left
  · rw [hd]
    go_wp2
    go_ret
    exact ⟨by unfold regIs; have h2 : decide (0 ≤ r ∧ r ≤ (s.regs.length : Int) - 1) = false := hd; rw [h2]; rfl, pw_below_drewN (Below.refl _ _) n1⟩
  rw [hd]
  have hq := of_decide_eq_true hd
  obtain ⟨q, rfl⟩ : ∃ q : Nat, r = q := ⟨r.toNat, by omega⟩
  obtain ⟨a, rfl, ha⟩ := int_at HR.out q (by omega)
  have HD := Aside0.mk (show regIs s (q : Int) v = (el 0 s.regs q == v) by unfold regIs; have h2 : decide (0 ≤ (q : Int) ∧ (q : Int) ≤ (s.regs.length : Int) - 1) = true := hd; rw [h2, Int.toNat_natCast]; rfl)
  clear hd
  have k1 : (0 : Int) ≤ (q : Int) := by omega
  have k2 : (q : Int) < (s.regs.length : Int) := by omega
  have hB := pw_below_drewN (Below.refl w.heap.size w) n1
  have z0 := pw_cell_below hB hs1; have z1 := pw_cell_below hB ha
  clear hs1 ha
  go_wp2
  go_ret
  exact ⟨by rw [HD.out]; rfl, hB⟩
def capsI.T6 : Bool × List (List Nat × List Nat) := (true, [([], []), ([0], [0]), ([1], [1]), ([2], [2]), ([2], [2]), ([4, 2], [2, 4]), ([3, 5, 2, 2], [2, 3, 5]), ([6, 2], [2, 6]), ([2, 7], [2, 7]), ([8, 6], [8]), ([9], [9]), ([10, 9], [9, 10]), ([11, 9], [9, 11]), ([12, 9, 9], [9, 12]), ([13], [13]), ([14, 13], [13, 14]), ([13], [13]), ([16, 13], [13, 16]), ([17, 13], [13, 17]), ([18, 13], [13, 18]), ([19, 13], [13, 19]), ([15, 20, 13], [13, 15, 20]), ([13, 21, 9], [9, 13, 21]), ([9, 22], [9, 22])])
def capsI.B6 : List Nat := [0, 1, 3, 7, 7, 23, 63, 127, 255, 511, 1023, 2047, 4095, 8191, 16383, 32767, 16383, 81919, 212991, 475135, 999423, 2097151, 4194303, 8388607]
theorem capsI.tab6 : rtab .any (opsOf Try.f138 6) = capsI.T6 := by kernel_rfl
theorem capsI.bits6 : waitsOk capsI.T6.2 capsI.B6 = true := by kernel_rfl
def capsB (x : Image) (f : Func) (s : State) (q : Nat) : Bool := decide (1 ≤ (q : Int) ∧ (q : Int) ≤ (x.funcs.length : Int) - 1) && capsTo f s (el zFunc x.funcs q).caps (el zFunc x.funcs q).caps.length
set_option maxHeartbeats 8000000 in
set_option maxRecDepth 100000 in
theorem cCapsAre (x : Image) (j : Nat) (s : State) (gs gx : Nat) (fa : Addr) (c0 : Nat) (A1 : Option Addr) (c1 : Nat) (AR : Option Addr) (cR : Nat) (w : World) (hs0 : w.cell? ⟨gs, 0, none⟩ = some (.int .i64 s.acc)) (hs1 : w.cell? ⟨gs, 1, none⟩ = some (.slice AR s.regs.length cR)) (hr : (Kd.int .i64).C w AR s.regs.length s.regs) (hl : s.regs.length ≤ 1048576) (hx0 : w.cell? ⟨gx, 0, none⟩ = some (.slice (some fa) x.funcs.length c0)) (hx1 : w.cell? ⟨gx, 1, none⟩ = some (.slice A1 x.consts.length c1)) (g0 : kFuncI.C w (some fa) x.funcs.length x.funcs) (hj : j < x.funcs.length) (hx : x.funcs.length ≤ 1048576) (hf : (el zFunc x.funcs j).caps.length ≤ 1048576) (q : Nat) :
    Calls Try.prog 138 #[.pointer (some ⟨gs, 0, none⟩), .pointer (some ⟨gx, 0, none⟩), .pointer (some (fa.add (j * 5))), .int .i64 q] w fun e w' => e = .returned (.bool (capsB x (el zFunc x.funcs j) s q)) ∧ Below w.heap.size w w' := by
  have hu := Try.underlying37; have hu1 := Try.underlying34; have hu2 := Try.underlying73; have hu3 := Try.underlying76; have hu4 := Try.underlying31; have hu5 := Try.underlying69; have hu6 := Try.underlying105
  obtain ⟨fa0, A2, c2, A3, c3, A4, c4, hfa, x0, x1, x2, x3, x4, hcap, hcode, hhan⟩ := func_at5 g0 j hj
  cases hfa
  obtain ⟨f, hfe⟩ : ∃ f, f = el zFunc x.funcs j := ⟨_, rfl⟩
  rw [← hfe] at x0 x1 x2 x3 x4 hcap hcode hhan hf ⊢
  have HFE := Aside0.mk hfe; have G0 := Aside0.mk g0; have HR := Aside0.mk hr; have HJ := Aside0.mk hj
  have F0 := Aside0.mk hs0; have F1 := Aside0.mk hs1; have F2 := Aside0.mk hx0; have F3 := Aside0.mk hx1; have F4 := Aside0.mk x2; have F5 := Aside0.mk x3
  clear g0 hr hj hcap hcode hhan hfe x0 x1 x2 x3 x4 hs0 hs1 hx0 hx1
  have i4 : IntKind.i64.wrap ((x.funcs.length : Int) - 1) = (x.funcs.length : Int) - 1 := IntWalk.i64_in _ (by omega)
  have i5 : wrap64 ((x.funcs.length : Int) - 1) = (x.funcs.length : Int) - 1 := wrap64_id (by omega) (by omega)
  have y2 := F2.out
  go_enter Try.func138, Try.ntmps138
  go_wp2_with fail
  refine (impl_within.calls _ _ _ _ _ (Img.impl_in (q : Int) 1 ((x.funcs.length : Int) - 1))).mono ?_; rintro e w1 ⟨rfl, ⟨⟨n1, rfl⟩⟩⟩
  clear y2
  have M1 := Aside0.mk ((Mem.start w).draw n1)
  rcases Bool.eq_false_or_eq_true (Img.inB (q : Int) 1 ((x.funcs.length : Int) - 1)) with hd | hd
  rotate_left
  · rw [hd]
    go_wp2
    go_ret
    exact ⟨by have h2 : decide (1 ≤ (q : Int) ∧ (q : Int) ≤ (x.funcs.length : Int) - 1) = false := hd; rw [show capsB x f s q = false from by unfold capsB; rw [h2]; rfl]; rfl, M1.out.below⟩
  rw [hd]
  have hq := of_decide_eq_true hd
  have HD := Aside0.mk hd; clear hd
  have hql : q < x.funcs.length := by omega
  have hq2 : (q : Int) < (x.funcs.length : Int) := by omega
  obtain ⟨fb, B2, e2, B3, e3, B4, e4, hfb, v0, v1, v2, v3, v4, gcap, gcode, ghan⟩ := func_at5 G0.out q hql
  cases hfb
  obtain ⟨caps, hcs⟩ : ∃ caps, caps = (el zFunc x.funcs q).caps := ⟨_, rfl⟩
  rw [← hcs] at v2 gcap
  have v2 := pw_cell_below M1.out.below v2
  have GCW := Aside0.mk gcap.2
  have HE := Aside0.mk (show capsB x f s q = capsTo f s caps caps.length from by unfold capsB; have h2 : decide (1 ≤ (q : Int) ∧ (q : Int) ≤ (x.funcs.length : Int) - 1) = true := HD.out; rw [h2, hcs]; rfl)
  clear hcs gcap v0 v1 v3 v4 gcode ghan
  have y2 := pw_cell_below M1.out.below F2.out
  go_upto_region 4 with fail
  clear y2 v2
  go_loopw [29] (fun v wx => ∃ k : Nat, v = .int .i64 k ∧ k ≤ caps.length ∧ capsTo f s caps k = true ∧ Aside0 (Mem w wx [])) (fun v _ => caps.length - (intOf v).toNat)
  case atStart => exact ⟨0, rfl, by omega, rfl, M1⟩
  case round =>
  clear M1
  obtain ⟨k, rfl, hk, hA, M2⟩ := hrel
  have hcl : caps.length ≤ 9223372036854775807 := GCW.out.2.1
  by_cases hlt : k < caps.length
  · have hle : (k : Int) < (caps.length : Int) := by omega
    obtain ⟨ca, hca, cK, y0, y1⟩ := Cap_at (Kd.C_below GCW.out M2.out.below) k hlt
    cases hca
    clear cK
    obtain ⟨c, hce⟩ : ∃ c, c = el zCap caps k := ⟨_, rfl⟩
    rw [← hce] at y0 y1
    have hcp : capB f s c = capB f s (el zCap caps k) := by rw [hce]
    clear hce
    obtain ⟨gc, hgc⟩ : ∃ gc : Nat, gc = wr.heap.size := ⟨_, rfl⟩
    have MB := Aside0.mk (M2.out.allocAt hgc #[.bool c.reg, .int .i64 c.index] 105)
    go_upto_region 6 with fail
    clear y0 y1
    rw [← hgc]
    have HGC := Aside0.mk hgc; clear hgc
    obtain ⟨L, HL, ML⟩ := Mem.hide MB
    have E2 := Aside0.mk (show Hold.box gc #[.bool c.reg, .int .i64 c.index] 105 ∈ L from HL.out ▸ (.head _))
    clear MB
    have MD := Aside0.mk ML.out.drew
    obtain ⟨cr, hcr⟩ : ∃ cr, cr = c.reg := ⟨_, rfl⟩
    skip
    clear hcr cr
    rcases Bool.eq_false_or_eq_true c.reg with hcr | hcr
    · rw [hcr] at MD E2 ⊢
      rcases Bool.eq_false_or_eq_true (regIs s c.index 2) with hq3 | hq3
      · have hcv : capB f s c = true := by unfold capB; rw [hcr]; exact hq3
        refine sz 24 (fun W => W.cell? ⟨gc, 0, none⟩ = some (.bool true) ∧ W.cell? ⟨gc, 1, none⟩ = some (.int .i64 c.index) ∧ W.cell? ⟨(fa.add (j * 5)).block, (fa.add (j * 5)).off + 2, none⟩ = some (.slice A2 f.caps.length c2)) [] capsI.tab6 capsI.bits6 ⟨(MD.out.box E2.out 0).trans rfl, (MD.out.box E2.out 1).trans rfl, pw_cell_below MD.out.below F4.out⟩ (fun HT_ HW_ hHeld => ?_)
        refine pz 0 33 ?_; refine tz 1 34 ?_; refine pz 2 35 ?_; refine pz 3 36 ?_; refine pz 4 37 ?_; refine tz 5 38 ?_
        refine ez 6 (some 39) (fun K hK => ?_)
        refine gz Try.func137 #[.pointer (some ⟨gs, 0, none⟩), .int .i64 c.index, .int .i64 2] ?_
        have C := cIsReg gs s c.index 2 AR cR _ (pw_cell_below MD.out.below F1.out) (Kd.C_below HR.out MD.out.below) hl
        rw [hq3] at C
        refine C.mono ?_; clear C
        rintro e w5 ⟨rfl, hb⟩
        have M5 := Aside0.mk (MD.out.step hb); clear hb
        refine ⟨_, rfl, ?_⟩
        refine hK.out _ _ ⟨(M5.out.box E2.out 0).trans rfl, (M5.out.box E2.out 1).trans rfl, pw_cell_below M5.out.below F4.out⟩ (fun hHeld => ?_); clear hK K; refine kz (some 39) ?_
        refine pz 7 40 ?_; refine pz 8 41 ?_; refine pz 9 42 ?_; refine pz 10 43 ?_; refine tz 11 44 ?_; refine pz 12 45 ?_; refine pz 13 46 ?_; refine oz 14 47 ?_; refine oz 15 48 ?_; refine oz 16 49 ?_; refine oz 17 50 ?_; refine oz 18 51 ?_; refine oz 19 52 ?_; refine oz 20 53 ?_; refine oz 21 54 ?_; refine pz 22 55 ?_; refine pz 23 56 ?_
        refine dz ?_
        have hl3 := HL.out; subst hl3; clear HL E2
        go_wp2
        go_roundw
        case measure => simp [intOf]; omega
        case rel => exact ⟨k + 1, by go_num, by omega, by show (capsTo f s caps k && capB f s (el zCap caps k)) = true; rw [hA, ← hcp, hcv]; rfl, ⟨M5.out.drop⟩⟩
      · have hcv : capB f s c = false := by unfold capB; rw [hcr]; exact hq3
        refine sz 24 (fun W => W.cell? ⟨gc, 0, none⟩ = some (.bool true) ∧ W.cell? ⟨gc, 1, none⟩ = some (.int .i64 c.index) ∧ W.cell? ⟨(fa.add (j * 5)).block, (fa.add (j * 5)).off + 2, none⟩ = some (.slice A2 f.caps.length c2)) [] capsI.tab6 capsI.bits6 ⟨(MD.out.box E2.out 0).trans rfl, (MD.out.box E2.out 1).trans rfl, pw_cell_below MD.out.below F4.out⟩ (fun HT_ HW_ hHeld => ?_)
        refine pz 0 33 ?_; refine tz 1 34 ?_; refine pz 2 35 ?_; refine pz 3 36 ?_; refine pz 4 37 ?_; refine tz 5 38 ?_
        refine ez 6 (some 39) (fun K hK => ?_)
        refine gz Try.func137 #[.pointer (some ⟨gs, 0, none⟩), .int .i64 c.index, .int .i64 2] ?_
        have C := cIsReg gs s c.index 2 AR cR _ (pw_cell_below MD.out.below F1.out) (Kd.C_below HR.out MD.out.below) hl
        rw [hq3] at C
        refine C.mono ?_; clear C
        rintro e w5 ⟨rfl, hb⟩
        have M5 := Aside0.mk (MD.out.step hb); clear hb
        refine ⟨_, rfl, ?_⟩
        refine hK.out _ _ ⟨(M5.out.box E2.out 0).trans rfl, (M5.out.box E2.out 1).trans rfl, pw_cell_below M5.out.below F4.out⟩ (fun hHeld => ?_); clear hK K; refine kz (some 39) ?_
        refine pz 7 40 ?_; refine pz 8 41 ?_; refine pz 9 42 ?_; refine oz 10 43 ?_; refine oz 11 44 ?_; refine oz 12 45 ?_; refine oz 13 46 ?_; refine oz 14 47 ?_; refine oz 15 48 ?_; refine oz 16 49 ?_; refine oz 17 50 ?_; refine oz 18 51 ?_; refine oz 19 52 ?_; refine oz 20 53 ?_; refine oz 21 54 ?_; refine oz 22 55 ?_; refine pz 23 56 ?_
        refine dz ?_
        have hl3 := HL.out; subst hl3; clear HL E2
        go_wp2
        go_ret
        exact ⟨by rw [HE.out, caps_no f s caps (k := k) (by rw [← hcp]; exact hcv) hlt]; rfl, M5.out.below⟩
    · rw [hcr] at MD E2 ⊢
      rcases Bool.eq_false_or_eq_true (decide (c.index < (f.caps.length : Int))) with hq3 | hq3
      · have hcv : capB f s c = true := by unfold capB; rw [hcr]; exact hq3
        have hq4 : decide ((f.caps.length : Int) ≤ c.index) = false := by have h := of_decide_eq_true hq3; simp; omega
        refine sz 24 (fun W => W.cell? ⟨gc, 0, none⟩ = some (.bool false) ∧ W.cell? ⟨gc, 1, none⟩ = some (.int .i64 c.index) ∧ W.cell? ⟨(fa.add (j * 5)).block, (fa.add (j * 5)).off + 2, none⟩ = some (.slice A2 f.caps.length c2)) [] capsI.tab6 capsI.bits6 ⟨(MD.out.box E2.out 0).trans rfl, (MD.out.box E2.out 1).trans rfl, pw_cell_below MD.out.below F4.out⟩ (fun HT_ HW_ hHeld => ?_)
        refine pz 0 33 ?_; refine tz 1 34 ?_; refine pz 2 35 ?_; refine oz 3 36 ?_; refine oz 4 37 ?_; refine oz 5 38 ?_; refine oz 6 39 ?_; refine oz 7 40 ?_; refine pz 8 41 ?_; refine pz 9 42 ?_; refine pz 10 43 ?_; refine tz 11 44 ?_; refine pz 12 45 ?_; refine pz 13 46 ?_; refine pz 14 47 ?_; refine pz 16 49 ?_; refine pz 17 50 ?_; refine pz 18 51 ?_; refine tz 15 48 ?_; refine tz 19 52 ?_; refine pz 20 53 ?_; refine pz 21 54 ?_; refine pz 22 55 ?_; refine pz 23 56 ?_
        refine dz ?_
        have hl3 := HL.out; subst hl3; clear HL E2
        go_wp2
        go_roundw
        case measure => simp [intOf]; omega
        case rel => exact ⟨k + 1, by go_num, by omega, by show (capsTo f s caps k && capB f s (el zCap caps k)) = true; rw [hA, ← hcp, hcv]; rfl, ⟨MD.out.drop⟩⟩
      · have hcv : capB f s c = false := by unfold capB; rw [hcr]; exact hq3
        have hq4 : decide ((f.caps.length : Int) ≤ c.index) = true := by have h := of_decide_eq_false hq3; simp; omega
        refine sz 24 (fun W => W.cell? ⟨gc, 0, none⟩ = some (.bool false) ∧ W.cell? ⟨gc, 1, none⟩ = some (.int .i64 c.index) ∧ W.cell? ⟨(fa.add (j * 5)).block, (fa.add (j * 5)).off + 2, none⟩ = some (.slice A2 f.caps.length c2)) [] capsI.tab6 capsI.bits6 ⟨(MD.out.box E2.out 0).trans rfl, (MD.out.box E2.out 1).trans rfl, pw_cell_below MD.out.below F4.out⟩ (fun HT_ HW_ hHeld => ?_)
        refine pz 0 33 ?_; refine tz 1 34 ?_; refine pz 2 35 ?_; refine oz 3 36 ?_; refine oz 4 37 ?_; refine oz 5 38 ?_; refine oz 6 39 ?_; refine oz 7 40 ?_; refine pz 8 41 ?_; refine pz 9 42 ?_; refine pz 10 43 ?_; refine tz 11 44 ?_; refine pz 12 45 ?_; refine pz 13 46 ?_; refine pz 14 47 ?_; refine pz 16 49 ?_; refine pz 17 50 ?_; refine pz 18 51 ?_; refine tz 15 48 ?_; refine tz 19 52 ?_; refine pz 20 53 ?_; refine pz 21 54 ?_; refine pz 22 55 ?_; refine pz 23 56 ?_
        refine dz ?_
        have hl3 := HL.out; subst hl3; clear HL E2
        go_wp2
        go_ret
        exact ⟨by rw [HE.out, caps_no f s caps (k := k) (by rw [← hcp]; exact hcv) hlt]; rfl, MD.out.below⟩
  · have hle : ¬ (k : Int) < (caps.length : Int) := by omega
    obtain rfl : k = caps.length := by omega
    go_wp2
    go_ret
    exact ⟨by rw [HE.out, hA]; rfl, M2.out.below⟩
end Go.Proofs.Ytcbaokflimdjnaa.Flow
end
section
namespace Go.Proofs.Ytcbaokflimdjnaa.Flow
open Go.RowKit Go.Proofs.YtcbaokflimdjnaaW.PrintWords Go.Proofs.YtcbaokflimdjnaaW.PrintLast Go.Proofs.Ytcbaokflimdjnaa.Steps Go.Proofs.YtcbaokflimdjnaaW.PrintMore Go.Proofs.Ytcbaokflimdjnaa.Law Go.Proofs.Ytcbaokflimdjnaa Go.Proofs.Ytcbaokflimdjnaa.QFnExactVerify Go.Proofs.Ytcbaokflimdjnaa.Num
set_option linter.unusedVariables false
set_option linter.unusedSimpArgs false
set_option autoImplicit false
def wantI.T5 : Bool × List (List Nat × List Nat) := (true, [([], []), ([0], [0]), ([], []), ([2], [2]), ([3], [3]), ([4], [4]), ([5], [5]), ([1, 6], [1, 6]), ([7, 0, 1, 2, 3, 4, 5, 6, 7], [7])])
def wantI.B5 : List Nat := [0, 1, 0, 4, 12, 28, 60, 127, 255]
theorem wantI.tab5 : rtab .any (opsOf Try.f101 5) = wantI.T5 := by kernel_rfl
theorem wantI.bits5 : waitsOk wantI.T5.2 wantI.B5 = true := by kernel_rfl
def wantI.T10 : Bool × List (List Nat × List Nat) := (true, [([], []), ([0], [0]), ([], []), ([2], [2]), ([3], [3]), ([4], [4]), ([5], [5]), ([1, 6], [1, 6]), ([7, 0, 1, 2, 3, 4, 5, 6, 7], [7])])
def wantI.B10 : List Nat := [0, 1, 0, 4, 12, 28, 60, 127, 255]
theorem wantI.tab10 : rtab .any (opsOf Try.f101 10) = wantI.T10 := by kernel_rfl
theorem wantI.bits10 : waitsOk wantI.T10.2 wantI.B10 = true := by kernel_rfl
def wantI.T16 : Bool × List (List Nat × List Nat) := (true, [([], []), ([0], [0]), ([], []), ([2], [2]), ([3], [3]), ([4], [4]), ([5], [5]), ([1, 6], [1, 6]), ([7, 0, 1, 2, 3, 4, 5, 6, 7], [7])])
def wantI.B16 : List Nat := [0, 1, 0, 4, 12, 28, 60, 127, 255]
theorem wantI.tab16 : rtab .any (opsOf Try.f101 16) = wantI.T16 := by kernel_rfl
theorem wantI.bits16 : waitsOk wantI.T16.2 wantI.B16 = true := by kernel_rfl
def wantI.T22 : Bool × List (List Nat × List Nat) := (true, [([], []), ([0], [0]), ([], []), ([2], [2]), ([3], [3]), ([4], [4]), ([5], [5]), ([1, 6], [1, 6]), ([7, 0, 1, 2, 3, 4, 5, 6, 7], [7])])
def wantI.B22 : List Nat := [0, 1, 0, 4, 12, 28, 60, 127, 255]
theorem wantI.tab22 : rtab .any (opsOf Try.f101 22) = wantI.T22 := by kernel_rfl
theorem wantI.bits22 : waitsOk wantI.T22.2 wantI.B22 = true := by kernel_rfl
/-- What is known of an instruction of kind op, and of the memory, when wants is called. -/
structure WH (x : Image) (j : Nat) (s : State) (gs gx : Nat) (fa : Addr) (c0 : Nat) (A1 : Option Addr) (c1 : Nat) (AR : Option Addr) (cR : Nat) (w : World) (op ia ib : Int) (f : Func) (A2 : Option Addr) (c2 : Nat) (A3 : Option Addr) (c3 : Nat) : Prop where
  HFE : Aside0 (f = el zFunc x.funcs j)
  G0 : Aside0 (kFuncI.C w (some fa) x.funcs.length x.funcs)
  HR : Aside0 ((Kd.int .i64).C w AR s.regs.length s.regs)
  HJ : Aside0 (j < x.funcs.length)
  F0 : Aside0 (w.cell? ⟨gs, 0, none⟩ = some (.int .i64 s.acc))
  F1 : Aside0 (w.cell? ⟨gs, 1, none⟩ = some (.slice AR s.regs.length cR))
  F2 : Aside0 (w.cell? ⟨gx, 0, none⟩ = some (.slice (some fa) x.funcs.length c0))
  F3 : Aside0 (w.cell? ⟨gx, 1, none⟩ = some (.slice A1 x.consts.length c1))
  F4 : Aside0 (w.cell? ⟨(fa.add (j * 5)).block, (fa.add (j * 5)).off + 2, none⟩ = some (.slice A2 f.caps.length c2))
  F5 : Aside0 (w.cell? ⟨(fa.add (j * 5)).block, (fa.add (j * 5)).off + 3, none⟩ = some (.slice A3 f.code.length c3))
  hl : s.regs.length ≤ 1048576
  hx : x.funcs.length ≤ 1048576
  ha : 0 ≤ ia ∧ ia ≤ 300
  hb : 0 ≤ ib ∧ ib ≤ 300
  hf : f.caps.length ≤ 1048576
def WantAt (op : Int) : Prop := ∀ (x : Image) (j : Nat) (s : State) (gs gx : Nat) (fa : Addr) (c0 : Nat) (A1 : Option Addr) (c1 : Nat) (AR : Option Addr) (cR : Nat) (w : World) (hs0 : w.cell? ⟨gs, 0, none⟩ = some (.int .i64 s.acc)) (hs1 : w.cell? ⟨gs, 1, none⟩ = some (.slice AR s.regs.length cR)) (hr : (Kd.int .i64).C w AR s.regs.length s.regs) (hl : s.regs.length ≤ 1048576) (hx0 : w.cell? ⟨gx, 0, none⟩ = some (.slice (some fa) x.funcs.length c0)) (hx1 : w.cell? ⟨gx, 1, none⟩ = some (.slice A1 x.consts.length c1)) (g0 : kFuncI.C w (some fa) x.funcs.length x.funcs) (hj : j < x.funcs.length) (hx : x.funcs.length ≤ 1048576) (hf : (el zFunc x.funcs j).caps.length ≤ 1048576) (ia ib : Int) (ha : 0 ≤ ia ∧ ia ≤ 300) (hb : 0 ≤ ib ∧ ib ≤ 300),
    Calls Try.prog 101 #[.pointer (some ⟨gs, 0, none⟩), .pointer (some ⟨gx, 0, none⟩), .pointer (some (fa.add (j * 5))), .agg #[.int .i64 op, .int .i64 ia, .int .i64 ib]] w fun e w' => e = .returned (.bool (mayB x (el zFunc x.funcs j) ⟨op, ia, ib⟩ s)) ∧ Below w.heap.size w w'
theorem want_at (op : Int) (h : ∀ x j s gs gx fa c0 A1 c1 AR cR w ia ib f A2 c2 A3 c3, WH x j s gs gx fa c0 A1 c1 AR cR w op ia ib f A2 c2 A3 c3 → Calls Try.prog 101 #[.pointer (some ⟨gs, 0, none⟩), .pointer (some ⟨gx, 0, none⟩), .pointer (some (fa.add (j * 5))), .agg #[.int .i64 op, .int .i64 ia, .int .i64 ib]] w fun e w' => e = .returned (.bool (mayB x f ⟨op, ia, ib⟩ s)) ∧ Below w.heap.size w w') : WantAt op := by
  intro x j s gs gx fa c0 A1 c1 AR cR w hs0 hs1 hr hl hx0 hx1 g0 hj hx hf ia ib ha hb
  obtain ⟨fa0, A2, c2, A3, c3, A4, c4, hfa, x0, x1, x2, x3, x4, hcap, hcode, hhan⟩ := func_at5 g0 j hj
  cases hfa
  obtain ⟨f, hfe⟩ : ∃ f, f = el zFunc x.funcs j := ⟨_, rfl⟩
  rw [← hfe] at x2 x3 hf ⊢
  exact h x j s gs gx fa c0 A1 c1 AR cR w ia ib f A2 c2 A3 c3 ⟨⟨hfe⟩, ⟨g0⟩, ⟨hr⟩, ⟨hj⟩, ⟨hs0⟩, ⟨hs1⟩, ⟨hx0⟩, ⟨hx1⟩, ⟨x2⟩, ⟨x3⟩, hl, hx, ha, hb, hf⟩
theorem want_no {x : Image} {f : Func} {s : State} {ia ib : Int} (op : Int) (h1 : 1 ≤ op) (h2 : op ≤ 19) (h3 : (op == 3 || op == 4 || op == 6 || op == 8 || op == 9 || op == 10 || op == 11 || op == 13 || op == 14 || op == 17 || op == 18 || op == 19) = true) (hacc : (s.acc == 1) = false) : mayB x f ⟨op, ia, ib⟩ s = false := by
  have h : op = 3 ∨ op = 4 ∨ op = 6 ∨ op = 8 ∨ op = 9 ∨ op = 10 ∨ op = 11 ∨ op = 13 ∨ op = 14 ∨ op = 17 ∨ op = 18 ∨ op = 19 := by simpa [or_assoc] using h3
  have hn : ¬ s.acc = 1 := by simpa using hacc
  rcases h with rfl | rfl | rfl | rfl | rfl | rfl | rfl | rfl | rfl | rfl | rfl | rfl <;> (unfold mayB; simp [hn])
set_option maxHeartbeats 8000000 in
set_option maxRecDepth 100000 in
theorem want10 : WantAt 10 := by
  refine want_at 10 ?_
  rintro x j s gs gx fa c0 A1 c1 AR cR w ia ib f A2 c2 A3 c3 ⟨HFE, G0, HR, HJ, F0, F1, F2, F3, F4, F5, hl, hx, ha, hb, hf⟩
  have hu := Try.underlying37; have hu1 := Try.underlying34; have hu2 := Try.underlying73; have hu3 := Try.underlying76; have hu4 := Try.underlying31; have hu5 := Try.underlying69; have hu6 := Try.underlying105
  have M0 := Aside0.mk ((Mem.start w).allocAt rfl #[.int .i64 10, .int .i64 ia, .int .i64 ib] 76)
  have z0 := M0.out.box (.head _)
  go_enter Try.func101, Try.ntmps101
  go_wp2_with fail
  refine (impl_takesAcc.calls 10 true _ (by unfold impl_takesAcc.f; simp)).mono ?_; rintro e w1 ⟨rfl, ⟨⟨n0, rfl⟩⟩⟩
  have M0 := Aside0.mk (M0.out.draw n0); clear z0
  generalize World.drewN (World.alloc w (.cells #[.int .i64 10, .int .i64 ia, .int .i64 ib] 76)) n0 = wq at M0 ⊢
  have z0 := M0.out.box (.head _)
  have y0 := pw_cell_below M0.out.below F0.out; have y1 := pw_cell_below M0.out.below F1.out; have y2 := pw_cell_below M0.out.below F2.out; have y3 := pw_cell_below M0.out.below F3.out; have y4 := pw_cell_below M0.out.below F4.out; have y5 := pw_cell_below M0.out.below F5.out
  rcases Bool.eq_false_or_eq_true (s.acc == 1) with hacc | hacc
  rotate_left
  · have hacn : (s.acc != 1) = true := by unfold bne; rw [hacc]; rfl
    go_wp2
    go_ret
    exact ⟨by rw [want_no 10 (by decide) (by decide) (by decide) hacc]; rfl, M0.out.below⟩
  have hacn : (s.acc != 1) = false := by unfold bne; rw [hacc]; rfl
  go_wp2
  go_ret
  exact ⟨by rw [show mayB x f ⟨10, ia, ib⟩ s = true from by unfold mayB; simp [hacc]]; rfl, M0.out.below⟩
set_option maxHeartbeats 8000000 in
set_option maxRecDepth 100000 in
theorem want11 : WantAt 11 := by
  refine want_at 11 ?_
  rintro x j s gs gx fa c0 A1 c1 AR cR w ia ib f A2 c2 A3 c3 ⟨HFE, G0, HR, HJ, F0, F1, F2, F3, F4, F5, hl, hx, ha, hb, hf⟩
  have hu := Try.underlying37; have hu1 := Try.underlying34; have hu2 := Try.underlying73; have hu3 := Try.underlying76; have hu4 := Try.underlying31; have hu5 := Try.underlying69; have hu6 := Try.underlying105
  have M0 := Aside0.mk ((Mem.start w).allocAt rfl #[.int .i64 11, .int .i64 ia, .int .i64 ib] 76)
  have z0 := M0.out.box (.head _)
  go_enter Try.func101, Try.ntmps101
  go_wp2_with fail
  refine (impl_takesAcc.calls 11 true _ (by unfold impl_takesAcc.f; simp)).mono ?_; rintro e w1 ⟨rfl, ⟨⟨n0, rfl⟩⟩⟩
  have M0 := Aside0.mk (M0.out.draw n0); clear z0
  generalize World.drewN (World.alloc w (.cells #[.int .i64 11, .int .i64 ia, .int .i64 ib] 76)) n0 = wq at M0 ⊢
  have z0 := M0.out.box (.head _)
  have y0 := pw_cell_below M0.out.below F0.out; have y1 := pw_cell_below M0.out.below F1.out; have y2 := pw_cell_below M0.out.below F2.out; have y3 := pw_cell_below M0.out.below F3.out; have y4 := pw_cell_below M0.out.below F4.out; have y5 := pw_cell_below M0.out.below F5.out
  rcases Bool.eq_false_or_eq_true (s.acc == 1) with hacc | hacc
  rotate_left
  · have hacn : (s.acc != 1) = true := by unfold bne; rw [hacc]; rfl
    go_wp2
    go_ret
    exact ⟨by rw [want_no 11 (by decide) (by decide) (by decide) hacc]; rfl, M0.out.below⟩
  have hacn : (s.acc != 1) = false := by unfold bne; rw [hacc]; rfl
  go_wp2
  go_ret
  exact ⟨by rw [show mayB x f ⟨11, ia, ib⟩ s = true from by unfold mayB; simp [hacc]]; rfl, M0.out.below⟩
set_option maxHeartbeats 8000000 in
set_option maxRecDepth 100000 in
theorem want17 : WantAt 17 := by
  refine want_at 17 ?_
  rintro x j s gs gx fa c0 A1 c1 AR cR w ia ib f A2 c2 A3 c3 ⟨HFE, G0, HR, HJ, F0, F1, F2, F3, F4, F5, hl, hx, ha, hb, hf⟩
  have hu := Try.underlying37; have hu1 := Try.underlying34; have hu2 := Try.underlying73; have hu3 := Try.underlying76; have hu4 := Try.underlying31; have hu5 := Try.underlying69; have hu6 := Try.underlying105
  have M0 := Aside0.mk ((Mem.start w).allocAt rfl #[.int .i64 17, .int .i64 ia, .int .i64 ib] 76)
  have z0 := M0.out.box (.head _)
  go_enter Try.func101, Try.ntmps101
  go_wp2_with fail
  refine (impl_takesAcc.calls 17 true _ (by unfold impl_takesAcc.f; simp)).mono ?_; rintro e w1 ⟨rfl, ⟨⟨n0, rfl⟩⟩⟩
  have M0 := Aside0.mk (M0.out.draw n0); clear z0
  generalize World.drewN (World.alloc w (.cells #[.int .i64 17, .int .i64 ia, .int .i64 ib] 76)) n0 = wq at M0 ⊢
  have z0 := M0.out.box (.head _)
  have y0 := pw_cell_below M0.out.below F0.out; have y1 := pw_cell_below M0.out.below F1.out; have y2 := pw_cell_below M0.out.below F2.out; have y3 := pw_cell_below M0.out.below F3.out; have y4 := pw_cell_below M0.out.below F4.out; have y5 := pw_cell_below M0.out.below F5.out
  rcases Bool.eq_false_or_eq_true (s.acc == 1) with hacc | hacc
  rotate_left
  · have hacn : (s.acc != 1) = true := by unfold bne; rw [hacc]; rfl
    go_wp2
    go_ret
    exact ⟨by rw [want_no 17 (by decide) (by decide) (by decide) hacc]; rfl, M0.out.below⟩
  have hacn : (s.acc != 1) = false := by unfold bne; rw [hacc]; rfl
  go_wp2
  go_ret
  exact ⟨by rw [show mayB x f ⟨17, ia, ib⟩ s = true from by unfold mayB; simp [hacc]]; rfl, M0.out.below⟩
set_option maxHeartbeats 8000000 in
set_option maxRecDepth 100000 in
theorem want18 : WantAt 18 := by
  refine want_at 18 ?_
  rintro x j s gs gx fa c0 A1 c1 AR cR w ia ib f A2 c2 A3 c3 ⟨HFE, G0, HR, HJ, F0, F1, F2, F3, F4, F5, hl, hx, ha, hb, hf⟩
  have hu := Try.underlying37; have hu1 := Try.underlying34; have hu2 := Try.underlying73; have hu3 := Try.underlying76; have hu4 := Try.underlying31; have hu5 := Try.underlying69; have hu6 := Try.underlying105
  have M0 := Aside0.mk ((Mem.start w).allocAt rfl #[.int .i64 18, .int .i64 ia, .int .i64 ib] 76)
  have z0 := M0.out.box (.head _)
  go_enter Try.func101, Try.ntmps101
  go_wp2_with fail
  refine (impl_takesAcc.calls 18 true _ (by unfold impl_takesAcc.f; simp)).mono ?_; rintro e w1 ⟨rfl, ⟨⟨n0, rfl⟩⟩⟩
  have M0 := Aside0.mk (M0.out.draw n0); clear z0
  generalize World.drewN (World.alloc w (.cells #[.int .i64 18, .int .i64 ia, .int .i64 ib] 76)) n0 = wq at M0 ⊢
  have z0 := M0.out.box (.head _)
  have y0 := pw_cell_below M0.out.below F0.out; have y1 := pw_cell_below M0.out.below F1.out; have y2 := pw_cell_below M0.out.below F2.out; have y3 := pw_cell_below M0.out.below F3.out; have y4 := pw_cell_below M0.out.below F4.out; have y5 := pw_cell_below M0.out.below F5.out
  rcases Bool.eq_false_or_eq_true (s.acc == 1) with hacc | hacc
  rotate_left
  · have hacn : (s.acc != 1) = true := by unfold bne; rw [hacc]; rfl
    go_wp2
    go_ret
    exact ⟨by rw [want_no 18 (by decide) (by decide) (by decide) hacc]; rfl, M0.out.below⟩
  have hacn : (s.acc != 1) = false := by unfold bne; rw [hacc]; rfl
  go_wp2
  go_ret
  exact ⟨by rw [show mayB x f ⟨18, ia, ib⟩ s = true from by unfold mayB; simp [hacc]]; rfl, M0.out.below⟩
set_option maxHeartbeats 8000000 in
set_option maxRecDepth 100000 in
theorem want19 : WantAt 19 := by
  refine want_at 19 ?_
  rintro x j s gs gx fa c0 A1 c1 AR cR w ia ib f A2 c2 A3 c3 ⟨HFE, G0, HR, HJ, F0, F1, F2, F3, F4, F5, hl, hx, ha, hb, hf⟩
  have hu := Try.underlying37; have hu1 := Try.underlying34; have hu2 := Try.underlying73; have hu3 := Try.underlying76; have hu4 := Try.underlying31; have hu5 := Try.underlying69; have hu6 := Try.underlying105
  have M0 := Aside0.mk ((Mem.start w).allocAt rfl #[.int .i64 19, .int .i64 ia, .int .i64 ib] 76)
  have z0 := M0.out.box (.head _)
  go_enter Try.func101, Try.ntmps101
  go_wp2_with fail
  refine (impl_takesAcc.calls 19 true _ (by unfold impl_takesAcc.f; simp)).mono ?_; rintro e w1 ⟨rfl, ⟨⟨n0, rfl⟩⟩⟩
  have M0 := Aside0.mk (M0.out.draw n0); clear z0
  generalize World.drewN (World.alloc w (.cells #[.int .i64 19, .int .i64 ia, .int .i64 ib] 76)) n0 = wq at M0 ⊢
  have z0 := M0.out.box (.head _)
  have y0 := pw_cell_below M0.out.below F0.out; have y1 := pw_cell_below M0.out.below F1.out; have y2 := pw_cell_below M0.out.below F2.out; have y3 := pw_cell_below M0.out.below F3.out; have y4 := pw_cell_below M0.out.below F4.out; have y5 := pw_cell_below M0.out.below F5.out
  rcases Bool.eq_false_or_eq_true (s.acc == 1) with hacc | hacc
  rotate_left
  · have hacn : (s.acc != 1) = true := by unfold bne; rw [hacc]; rfl
    go_wp2
    go_ret
    exact ⟨by rw [want_no 19 (by decide) (by decide) (by decide) hacc]; rfl, M0.out.below⟩
  have hacn : (s.acc != 1) = false := by unfold bne; rw [hacc]; rfl
  go_wp2
  go_ret
  exact ⟨by rw [show mayB x f ⟨19, ia, ib⟩ s = true from by unfold mayB; simp [hacc]]; rfl, M0.out.below⟩
set_option maxHeartbeats 8000000 in
set_option maxRecDepth 100000 in
theorem want1 : WantAt 1 := by
  refine want_at 1 ?_
  rintro x j s gs gx fa c0 A1 c1 AR cR w ia ib f A2 c2 A3 c3 ⟨HFE, G0, HR, HJ, F0, F1, F2, F3, F4, F5, hl, hx, ha, hb, hf⟩
  have hu := Try.underlying37; have hu1 := Try.underlying34; have hu2 := Try.underlying73; have hu3 := Try.underlying76; have hu4 := Try.underlying31; have hu5 := Try.underlying69; have hu6 := Try.underlying105
  have M0 := Aside0.mk ((Mem.start w).allocAt rfl #[.int .i64 1, .int .i64 ia, .int .i64 ib] 76)
  have z0 := M0.out.box (.head _)
  go_enter Try.func101, Try.ntmps101
  go_wp2_with fail
  refine (impl_takesAcc.calls 1 false _ (by unfold impl_takesAcc.f; simp)).mono ?_; rintro e w1 ⟨rfl, ⟨⟨n0, rfl⟩⟩⟩
  have M0 := Aside0.mk (M0.out.draw n0); clear z0
  generalize World.drewN (World.alloc w (.cells #[.int .i64 1, .int .i64 ia, .int .i64 ib] 76)) n0 = wq at M0 ⊢
  have z0 := M0.out.box (.head _)
  have y0 := pw_cell_below M0.out.below F0.out; have y1 := pw_cell_below M0.out.below F1.out; have y2 := pw_cell_below M0.out.below F2.out; have y3 := pw_cell_below M0.out.below F3.out; have y4 := pw_cell_below M0.out.below F4.out; have y5 := pw_cell_below M0.out.below F5.out
  go_upto_region 5 with fail
  clear z0; clear y0 y1 y2 y3 y4 y5
  have MD := Aside0.mk M0.out.drew
  refine sz 9 (fun W => W.cell? ⟨w.heap.size, 1, none⟩ = some (.int .i64 ia) ∧ W.cell? ⟨gx, 1, none⟩ = some (.slice A1 x.consts.length c1)) [] wantI.tab5 wantI.bits5 ⟨(MD.out.box (.head _) 1).trans rfl, pw_cell_below MD.out.below F3.out⟩ (fun HT_ HW_ hHeld => ?_)
  refine pz 0 24 ?_; refine pz 2 26 ?_; refine pz 3 27 ?_; refine pz 4 28 ?_; refine tz 1 25 ?_; refine tz 5 29 ?_; refine pz 6 30 ?_; refine pz 7 31 ?_; refine pz 8 8 ?_
  refine dz ?_
  go_wp2
  go_ret
  exact ⟨by rw [show mayB x f ⟨1, ia, ib⟩ s = decide (ia < (x.consts.length : Int)) from by unfold mayB; simp]; rfl, MD.out.below⟩
set_option maxHeartbeats 8000000 in
set_option maxRecDepth 100000 in
theorem want7 : WantAt 7 := by
  refine want_at 7 ?_
  rintro x j s gs gx fa c0 A1 c1 AR cR w ia ib f A2 c2 A3 c3 ⟨HFE, G0, HR, HJ, F0, F1, F2, F3, F4, F5, hl, hx, ha, hb, hf⟩
  have hu := Try.underlying37; have hu1 := Try.underlying34; have hu2 := Try.underlying73; have hu3 := Try.underlying76; have hu4 := Try.underlying31; have hu5 := Try.underlying69; have hu6 := Try.underlying105
  have M0 := Aside0.mk ((Mem.start w).allocAt rfl #[.int .i64 7, .int .i64 ia, .int .i64 ib] 76)
  have z0 := M0.out.box (.head _)
  go_enter Try.func101, Try.ntmps101
  go_wp2_with fail
  refine (impl_takesAcc.calls 7 false _ (by unfold impl_takesAcc.f; simp)).mono ?_; rintro e w1 ⟨rfl, ⟨⟨n0, rfl⟩⟩⟩
  have M0 := Aside0.mk (M0.out.draw n0); clear z0
  generalize World.drewN (World.alloc w (.cells #[.int .i64 7, .int .i64 ia, .int .i64 ib] 76)) n0 = wq at M0 ⊢
  have z0 := M0.out.box (.head _)
  have y0 := pw_cell_below M0.out.below F0.out; have y1 := pw_cell_below M0.out.below F1.out; have y2 := pw_cell_below M0.out.below F2.out; have y3 := pw_cell_below M0.out.below F3.out; have y4 := pw_cell_below M0.out.below F4.out; have y5 := pw_cell_below M0.out.below F5.out
  go_upto_region 16 with fail
  clear z0; clear y0 y1 y2 y3 y4 y5
  have MD := Aside0.mk M0.out.drew
  refine sz 9 (fun W => W.cell? ⟨w.heap.size, 1, none⟩ = some (.int .i64 ia) ∧ W.cell? ⟨(fa.add (j * 5)).block, (fa.add (j * 5)).off + 2, none⟩ = some (.slice A2 f.caps.length c2)) [] wantI.tab16 wantI.bits16 ⟨(MD.out.box (.head _) 1).trans rfl, pw_cell_below MD.out.below F4.out⟩ (fun HT_ HW_ hHeld => ?_)
  refine pz 0 59 ?_; refine pz 2 61 ?_; refine pz 3 62 ?_; refine pz 4 63 ?_; refine tz 1 60 ?_; refine tz 5 64 ?_; refine pz 6 65 ?_; refine pz 7 66 ?_; refine pz 8 8 ?_
  refine dz ?_
  go_wp2
  go_ret
  exact ⟨by rw [show mayB x f ⟨7, ia, ib⟩ s = decide (ia < (f.caps.length : Int)) from by unfold mayB; simp]; rfl, MD.out.below⟩
set_option maxHeartbeats 8000000 in
set_option maxRecDepth 100000 in
theorem want8 : WantAt 8 := by
  refine want_at 8 ?_
  rintro x j s gs gx fa c0 A1 c1 AR cR w ia ib f A2 c2 A3 c3 ⟨HFE, G0, HR, HJ, F0, F1, F2, F3, F4, F5, hl, hx, ha, hb, hf⟩
  have hu := Try.underlying37; have hu1 := Try.underlying34; have hu2 := Try.underlying73; have hu3 := Try.underlying76; have hu4 := Try.underlying31; have hu5 := Try.underlying69; have hu6 := Try.underlying105
  have M0 := Aside0.mk ((Mem.start w).allocAt rfl #[.int .i64 8, .int .i64 ia, .int .i64 ib] 76)
  have z0 := M0.out.box (.head _)
  go_enter Try.func101, Try.ntmps101
  go_wp2_with fail
  refine (impl_takesAcc.calls 8 true _ (by unfold impl_takesAcc.f; simp)).mono ?_; rintro e w1 ⟨rfl, ⟨⟨n0, rfl⟩⟩⟩
  have M0 := Aside0.mk (M0.out.draw n0); clear z0
  generalize World.drewN (World.alloc w (.cells #[.int .i64 8, .int .i64 ia, .int .i64 ib] 76)) n0 = wq at M0 ⊢
  have z0 := M0.out.box (.head _)
  have y0 := pw_cell_below M0.out.below F0.out; have y1 := pw_cell_below M0.out.below F1.out; have y2 := pw_cell_below M0.out.below F2.out; have y3 := pw_cell_below M0.out.below F3.out; have y4 := pw_cell_below M0.out.below F4.out; have y5 := pw_cell_below M0.out.below F5.out
  rcases Bool.eq_false_or_eq_true (s.acc == 1) with hacc | hacc
  rotate_left
  · have hacn : (s.acc != 1) = true := by unfold bne; rw [hacc]; rfl
    go_wp2
    go_ret
    exact ⟨by rw [want_no 8 (by decide) (by decide) (by decide) hacc]; rfl, M0.out.below⟩
  have hacn : (s.acc != 1) = false := by unfold bne; rw [hacc]; rfl
  go_upto_region 16 with fail
  clear z0; clear y0 y1 y2 y3 y4 y5
  have MD := Aside0.mk M0.out.drew
  refine sz 9 (fun W => W.cell? ⟨w.heap.size, 1, none⟩ = some (.int .i64 ia) ∧ W.cell? ⟨(fa.add (j * 5)).block, (fa.add (j * 5)).off + 2, none⟩ = some (.slice A2 f.caps.length c2)) [] wantI.tab16 wantI.bits16 ⟨(MD.out.box (.head _) 1).trans rfl, pw_cell_below MD.out.below F4.out⟩ (fun HT_ HW_ hHeld => ?_)
  refine pz 0 59 ?_; refine pz 2 61 ?_; refine pz 3 62 ?_; refine pz 4 63 ?_; refine tz 1 60 ?_; refine tz 5 64 ?_; refine pz 6 65 ?_; refine pz 7 66 ?_; refine pz 8 8 ?_
  refine dz ?_
  go_wp2
  go_ret
  exact ⟨by rw [show mayB x f ⟨8, ia, ib⟩ s = decide (ia < (f.caps.length : Int)) from by unfold mayB; simp [hacc]]; rfl, MD.out.below⟩
set_option maxHeartbeats 8000000 in
set_option maxRecDepth 100000 in
theorem want12 : WantAt 12 := by
  refine want_at 12 ?_
  rintro x j s gs gx fa c0 A1 c1 AR cR w ia ib f A2 c2 A3 c3 ⟨HFE, G0, HR, HJ, F0, F1, F2, F3, F4, F5, hl, hx, ha, hb, hf⟩
  have hu := Try.underlying37; have hu1 := Try.underlying34; have hu2 := Try.underlying73; have hu3 := Try.underlying76; have hu4 := Try.underlying31; have hu5 := Try.underlying69; have hu6 := Try.underlying105
  have M0 := Aside0.mk ((Mem.start w).allocAt rfl #[.int .i64 12, .int .i64 ia, .int .i64 ib] 76)
  have z0 := M0.out.box (.head _)
  go_enter Try.func101, Try.ntmps101
  go_wp2_with fail
  refine (impl_takesAcc.calls 12 false _ (by unfold impl_takesAcc.f; simp)).mono ?_; rintro e w1 ⟨rfl, ⟨⟨n0, rfl⟩⟩⟩
  have M0 := Aside0.mk (M0.out.draw n0); clear z0
  generalize World.drewN (World.alloc w (.cells #[.int .i64 12, .int .i64 ia, .int .i64 ib] 76)) n0 = wq at M0 ⊢
  have z0 := M0.out.box (.head _)
  have y0 := pw_cell_below M0.out.below F0.out; have y1 := pw_cell_below M0.out.below F1.out; have y2 := pw_cell_below M0.out.below F2.out; have y3 := pw_cell_below M0.out.below F3.out; have y4 := pw_cell_below M0.out.below F4.out; have y5 := pw_cell_below M0.out.below F5.out
  go_upto_region 22 with fail
  clear z0; clear y0 y1 y2 y3 y4 y5
  have MD := Aside0.mk M0.out.drew
  refine sz 9 (fun W => W.cell? ⟨w.heap.size, 1, none⟩ = some (.int .i64 ia) ∧ W.cell? ⟨(fa.add (j * 5)).block, (fa.add (j * 5)).off + 3, none⟩ = some (.slice A3 f.code.length c3)) [] wantI.tab22 wantI.bits22 ⟨(MD.out.box (.head _) 1).trans rfl, pw_cell_below MD.out.below F5.out⟩ (fun HT_ HW_ hHeld => ?_)
  refine pz 0 82 ?_; refine pz 2 84 ?_; refine pz 3 85 ?_; refine pz 4 86 ?_; refine tz 1 83 ?_; refine tz 5 87 ?_; refine pz 6 88 ?_; refine pz 7 89 ?_; refine pz 8 8 ?_
  refine dz ?_
  go_wp2
  go_ret
  exact ⟨by rw [show mayB x f ⟨12, ia, ib⟩ s = decide (ia < (f.code.length : Int)) from by unfold mayB; simp]; rfl, MD.out.below⟩
set_option maxHeartbeats 8000000 in
set_option maxRecDepth 100000 in
theorem want13 : WantAt 13 := by
  refine want_at 13 ?_
  rintro x j s gs gx fa c0 A1 c1 AR cR w ia ib f A2 c2 A3 c3 ⟨HFE, G0, HR, HJ, F0, F1, F2, F3, F4, F5, hl, hx, ha, hb, hf⟩
  have hu := Try.underlying37; have hu1 := Try.underlying34; have hu2 := Try.underlying73; have hu3 := Try.underlying76; have hu4 := Try.underlying31; have hu5 := Try.underlying69; have hu6 := Try.underlying105
  have M0 := Aside0.mk ((Mem.start w).allocAt rfl #[.int .i64 13, .int .i64 ia, .int .i64 ib] 76)
  have z0 := M0.out.box (.head _)
  go_enter Try.func101, Try.ntmps101
  go_wp2_with fail
  refine (impl_takesAcc.calls 13 true _ (by unfold impl_takesAcc.f; simp)).mono ?_; rintro e w1 ⟨rfl, ⟨⟨n0, rfl⟩⟩⟩
  have M0 := Aside0.mk (M0.out.draw n0); clear z0
  generalize World.drewN (World.alloc w (.cells #[.int .i64 13, .int .i64 ia, .int .i64 ib] 76)) n0 = wq at M0 ⊢
  have z0 := M0.out.box (.head _)
  have y0 := pw_cell_below M0.out.below F0.out; have y1 := pw_cell_below M0.out.below F1.out; have y2 := pw_cell_below M0.out.below F2.out; have y3 := pw_cell_below M0.out.below F3.out; have y4 := pw_cell_below M0.out.below F4.out; have y5 := pw_cell_below M0.out.below F5.out
  rcases Bool.eq_false_or_eq_true (s.acc == 1) with hacc | hacc
  rotate_left
  · have hacn : (s.acc != 1) = true := by unfold bne; rw [hacc]; rfl
    go_wp2
    go_ret
    exact ⟨by rw [want_no 13 (by decide) (by decide) (by decide) hacc]; rfl, M0.out.below⟩
  have hacn : (s.acc != 1) = false := by unfold bne; rw [hacc]; rfl
  go_upto_region 22 with fail
  clear z0; clear y0 y1 y2 y3 y4 y5
  have MD := Aside0.mk M0.out.drew
  refine sz 9 (fun W => W.cell? ⟨w.heap.size, 1, none⟩ = some (.int .i64 ia) ∧ W.cell? ⟨(fa.add (j * 5)).block, (fa.add (j * 5)).off + 3, none⟩ = some (.slice A3 f.code.length c3)) [] wantI.tab22 wantI.bits22 ⟨(MD.out.box (.head _) 1).trans rfl, pw_cell_below MD.out.below F5.out⟩ (fun HT_ HW_ hHeld => ?_)
  refine pz 0 82 ?_; refine pz 2 84 ?_; refine pz 3 85 ?_; refine pz 4 86 ?_; refine tz 1 83 ?_; refine tz 5 87 ?_; refine pz 6 88 ?_; refine pz 7 89 ?_; refine pz 8 8 ?_
  refine dz ?_
  go_wp2
  go_ret
  exact ⟨by rw [show mayB x f ⟨13, ia, ib⟩ s = decide (ia < (f.code.length : Int)) from by unfold mayB; simp [hacc]]; rfl, MD.out.below⟩
set_option maxHeartbeats 8000000 in
set_option maxRecDepth 100000 in
theorem want14 : WantAt 14 := by
  refine want_at 14 ?_
  rintro x j s gs gx fa c0 A1 c1 AR cR w ia ib f A2 c2 A3 c3 ⟨HFE, G0, HR, HJ, F0, F1, F2, F3, F4, F5, hl, hx, ha, hb, hf⟩
  have hu := Try.underlying37; have hu1 := Try.underlying34; have hu2 := Try.underlying73; have hu3 := Try.underlying76; have hu4 := Try.underlying31; have hu5 := Try.underlying69; have hu6 := Try.underlying105
  have M0 := Aside0.mk ((Mem.start w).allocAt rfl #[.int .i64 14, .int .i64 ia, .int .i64 ib] 76)
  have z0 := M0.out.box (.head _)
  go_enter Try.func101, Try.ntmps101
  go_wp2_with fail
  refine (impl_takesAcc.calls 14 true _ (by unfold impl_takesAcc.f; simp)).mono ?_; rintro e w1 ⟨rfl, ⟨⟨n0, rfl⟩⟩⟩
  have M0 := Aside0.mk (M0.out.draw n0); clear z0
  generalize World.drewN (World.alloc w (.cells #[.int .i64 14, .int .i64 ia, .int .i64 ib] 76)) n0 = wq at M0 ⊢
  have z0 := M0.out.box (.head _)
  have y0 := pw_cell_below M0.out.below F0.out; have y1 := pw_cell_below M0.out.below F1.out; have y2 := pw_cell_below M0.out.below F2.out; have y3 := pw_cell_below M0.out.below F3.out; have y4 := pw_cell_below M0.out.below F4.out; have y5 := pw_cell_below M0.out.below F5.out
  rcases Bool.eq_false_or_eq_true (s.acc == 1) with hacc | hacc
  rotate_left
  · have hacn : (s.acc != 1) = true := by unfold bne; rw [hacc]; rfl
    go_wp2
    go_ret
    exact ⟨by rw [want_no 14 (by decide) (by decide) (by decide) hacc]; rfl, M0.out.below⟩
  have hacn : (s.acc != 1) = false := by unfold bne; rw [hacc]; rfl
  go_upto_region 22 with fail
  clear z0; clear y0 y1 y2 y3 y4 y5
  have MD := Aside0.mk M0.out.drew
  refine sz 9 (fun W => W.cell? ⟨w.heap.size, 1, none⟩ = some (.int .i64 ia) ∧ W.cell? ⟨(fa.add (j * 5)).block, (fa.add (j * 5)).off + 3, none⟩ = some (.slice A3 f.code.length c3)) [] wantI.tab22 wantI.bits22 ⟨(MD.out.box (.head _) 1).trans rfl, pw_cell_below MD.out.below F5.out⟩ (fun HT_ HW_ hHeld => ?_)
  refine pz 0 82 ?_; refine pz 2 84 ?_; refine pz 3 85 ?_; refine pz 4 86 ?_; refine tz 1 83 ?_; refine tz 5 87 ?_; refine pz 6 88 ?_; refine pz 7 89 ?_; refine pz 8 8 ?_
  refine dz ?_
  go_wp2
  go_ret
  exact ⟨by rw [show mayB x f ⟨14, ia, ib⟩ s = decide (ia < (f.code.length : Int)) from by unfold mayB; simp [hacc]]; rfl, MD.out.below⟩
set_option maxHeartbeats 8000000 in
set_option maxRecDepth 100000 in
theorem want3 : WantAt 3 := by
  refine want_at 3 ?_
  rintro x j s gs gx fa c0 A1 c1 AR cR w ia ib f A2 c2 A3 c3 ⟨HFE, G0, HR, HJ, F0, F1, F2, F3, F4, F5, hl, hx, ha, hb, hf⟩
  have hu := Try.underlying37; have hu1 := Try.underlying34; have hu2 := Try.underlying73; have hu3 := Try.underlying76; have hu4 := Try.underlying31; have hu5 := Try.underlying69; have hu6 := Try.underlying105
  have M0 := Aside0.mk ((Mem.start w).allocAt rfl #[.int .i64 3, .int .i64 ia, .int .i64 ib] 76)
  have z0 := M0.out.box (.head _)
  go_enter Try.func101, Try.ntmps101
  go_wp2_with fail
  refine (impl_takesAcc.calls 3 true _ (by unfold impl_takesAcc.f; simp)).mono ?_; rintro e w1 ⟨rfl, ⟨⟨n0, rfl⟩⟩⟩
  have M0 := Aside0.mk (M0.out.draw n0); clear z0
  generalize World.drewN (World.alloc w (.cells #[.int .i64 3, .int .i64 ia, .int .i64 ib] 76)) n0 = wq at M0 ⊢
  have z0 := M0.out.box (.head _)
  have y0 := pw_cell_below M0.out.below F0.out; have y1 := pw_cell_below M0.out.below F1.out; have y2 := pw_cell_below M0.out.below F2.out; have y3 := pw_cell_below M0.out.below F3.out; have y4 := pw_cell_below M0.out.below F4.out; have y5 := pw_cell_below M0.out.below F5.out
  rcases Bool.eq_false_or_eq_true (s.acc == 1) with hacc | hacc
  rotate_left
  · have hacn : (s.acc != 1) = true := by unfold bne; rw [hacc]; rfl
    go_wp2
    go_ret
    exact ⟨by rw [want_no 3 (by decide) (by decide) (by decide) hacc]; rfl, M0.out.below⟩
  have hacn : (s.acc != 1) = false := by unfold bne; rw [hacc]; rfl
  go_upto_region 10 with fail
  clear z0; clear y0 y1 y2 y3 y4 y5
  have MD := Aside0.mk M0.out.drew
  refine sz 9 (fun W => W.cell? ⟨w.heap.size, 1, none⟩ = some (.int .i64 ia) ∧ W.cell? ⟨gs, 1, none⟩ = some (.slice AR s.regs.length cR)) [] wantI.tab10 wantI.bits10 ⟨(MD.out.box (.head _) 1).trans rfl, pw_cell_below MD.out.below F1.out⟩ (fun HT_ HW_ hHeld => ?_)
  refine pz 0 41 ?_; refine pz 2 43 ?_; refine pz 3 44 ?_; refine pz 4 45 ?_; refine tz 1 42 ?_; refine tz 5 46 ?_; refine pz 6 47 ?_; refine pz 7 48 ?_; refine pz 8 8 ?_
  refine dz ?_
  go_wp2
  go_ret
  exact ⟨by rw [show mayB x f ⟨3, ia, ib⟩ s = decide (ia < (s.regs.length : Int)) from by have e : decide (0 ≤ ia ∧ ia ≤ (s.regs.length : Int) - 1) = decide (ia < (s.regs.length : Int)) := decide_eq_decide.2 ⟨fun h => by omega, fun h => by omega⟩; unfold mayB room; rw [e]; simp [hacc]]; rfl, MD.out.below⟩
set_option maxHeartbeats 8000000 in
set_option maxRecDepth 100000 in
theorem want4 : WantAt 4 := by
  refine want_at 4 ?_
  rintro x j s gs gx fa c0 A1 c1 AR cR w ia ib f A2 c2 A3 c3 ⟨HFE, G0, HR, HJ, F0, F1, F2, F3, F4, F5, hl, hx, ha, hb, hf⟩
  have hu := Try.underlying37; have hu1 := Try.underlying34; have hu2 := Try.underlying73; have hu3 := Try.underlying76; have hu4 := Try.underlying31; have hu5 := Try.underlying69; have hu6 := Try.underlying105
  have M0 := Aside0.mk ((Mem.start w).allocAt rfl #[.int .i64 4, .int .i64 ia, .int .i64 ib] 76)
  have z0 := M0.out.box (.head _)
  go_enter Try.func101, Try.ntmps101
  go_wp2_with fail
  refine (impl_takesAcc.calls 4 true _ (by unfold impl_takesAcc.f; simp)).mono ?_; rintro e w1 ⟨rfl, ⟨⟨n0, rfl⟩⟩⟩
  have M0 := Aside0.mk (M0.out.draw n0); clear z0
  generalize World.drewN (World.alloc w (.cells #[.int .i64 4, .int .i64 ia, .int .i64 ib] 76)) n0 = wq at M0 ⊢
  have z0 := M0.out.box (.head _)
  have y0 := pw_cell_below M0.out.below F0.out; have y1 := pw_cell_below M0.out.below F1.out; have y2 := pw_cell_below M0.out.below F2.out; have y3 := pw_cell_below M0.out.below F3.out; have y4 := pw_cell_below M0.out.below F4.out; have y5 := pw_cell_below M0.out.below F5.out
  rcases Bool.eq_false_or_eq_true (s.acc == 1) with hacc | hacc
  rotate_left
  · have hacn : (s.acc != 1) = true := by unfold bne; rw [hacc]; rfl
    go_wp2
    go_ret
    exact ⟨by rw [want_no 4 (by decide) (by decide) (by decide) hacc]; rfl, M0.out.below⟩
  have hacn : (s.acc != 1) = false := by unfold bne; rw [hacc]; rfl
  go_upto_region 10 with fail
  clear z0; clear y0 y1 y2 y3 y4 y5
  have MD := Aside0.mk M0.out.drew
  refine sz 9 (fun W => W.cell? ⟨w.heap.size, 1, none⟩ = some (.int .i64 ia) ∧ W.cell? ⟨gs, 1, none⟩ = some (.slice AR s.regs.length cR)) [] wantI.tab10 wantI.bits10 ⟨(MD.out.box (.head _) 1).trans rfl, pw_cell_below MD.out.below F1.out⟩ (fun HT_ HW_ hHeld => ?_)
  refine pz 0 41 ?_; refine pz 2 43 ?_; refine pz 3 44 ?_; refine pz 4 45 ?_; refine tz 1 42 ?_; refine tz 5 46 ?_; refine pz 6 47 ?_; refine pz 7 48 ?_; refine pz 8 8 ?_
  refine dz ?_
  go_wp2
  go_ret
  exact ⟨by rw [show mayB x f ⟨4, ia, ib⟩ s = decide (ia < (s.regs.length : Int)) from by have e : decide (0 ≤ ia ∧ ia ≤ (s.regs.length : Int) - 1) = decide (ia < (s.regs.length : Int)) := decide_eq_decide.2 ⟨fun h => by omega, fun h => by omega⟩; unfold mayB room; rw [e]; simp [hacc]]; rfl, MD.out.below⟩
set_option maxHeartbeats 8000000 in
set_option maxRecDepth 100000 in
theorem want2 : WantAt 2 := by
  refine want_at 2 ?_
  rintro x j s gs gx fa c0 A1 c1 AR cR w ia ib f A2 c2 A3 c3 ⟨HFE, G0, HR, HJ, F0, F1, F2, F3, F4, F5, hl, hx, ha, hb, hf⟩
  have hu := Try.underlying37; have hu1 := Try.underlying34; have hu2 := Try.underlying73; have hu3 := Try.underlying76; have hu4 := Try.underlying31; have hu5 := Try.underlying69; have hu6 := Try.underlying105
  have M0 := Aside0.mk ((Mem.start w).allocAt rfl #[.int .i64 2, .int .i64 ia, .int .i64 ib] 76)
  have z0 := M0.out.box (.head _)
  go_enter Try.func101, Try.ntmps101
  go_wp2_with fail
  refine (impl_takesAcc.calls 2 false _ (by unfold impl_takesAcc.f; simp)).mono ?_; rintro e w1 ⟨rfl, ⟨⟨n0, rfl⟩⟩⟩
  have M0 := Aside0.mk (M0.out.draw n0); clear z0
  generalize World.drewN (World.alloc w (.cells #[.int .i64 2, .int .i64 ia, .int .i64 ib] 76)) n0 = wq at M0 ⊢
  have z0 := M0.out.box (.head _)
  have y0 := pw_cell_below M0.out.below F0.out; have y1 := pw_cell_below M0.out.below F1.out; have y2 := pw_cell_below M0.out.below F2.out; have y3 := pw_cell_below M0.out.below F3.out; have y4 := pw_cell_below M0.out.below F4.out; have y5 := pw_cell_below M0.out.below F5.out
  go_wp2_with fail
  refine (cIsReg gs s ia 1 AR cR _ y1 (Kd.C_below HR.out M0.out.below) hl).mono ?_; rintro e w2 ⟨rfl, hb⟩
  have M2 := Aside0.mk (M0.out.step hb); clear hb M0 z0; clear y0 y1 y2 y3 y4 y5
  go_wp2
  go_ret
  exact ⟨by rw [show mayB x f ⟨2, ia, ib⟩ s = regIs s ia 1 from by unfold mayB; simp]; rfl, M2.out.below⟩
set_option maxHeartbeats 8000000 in
set_option maxRecDepth 100000 in
theorem want5 : WantAt 5 := by
  refine want_at 5 ?_
  rintro x j s gs gx fa c0 A1 c1 AR cR w ia ib f A2 c2 A3 c3 ⟨HFE, G0, HR, HJ, F0, F1, F2, F3, F4, F5, hl, hx, ha, hb, hf⟩
  have hu := Try.underlying37; have hu1 := Try.underlying34; have hu2 := Try.underlying73; have hu3 := Try.underlying76; have hu4 := Try.underlying31; have hu5 := Try.underlying69; have hu6 := Try.underlying105
  have M0 := Aside0.mk ((Mem.start w).allocAt rfl #[.int .i64 5, .int .i64 ia, .int .i64 ib] 76)
  have z0 := M0.out.box (.head _)
  go_enter Try.func101, Try.ntmps101
  go_wp2_with fail
  refine (impl_takesAcc.calls 5 false _ (by unfold impl_takesAcc.f; simp)).mono ?_; rintro e w1 ⟨rfl, ⟨⟨n0, rfl⟩⟩⟩
  have M0 := Aside0.mk (M0.out.draw n0); clear z0
  generalize World.drewN (World.alloc w (.cells #[.int .i64 5, .int .i64 ia, .int .i64 ib] 76)) n0 = wq at M0 ⊢
  have z0 := M0.out.box (.head _)
  have y0 := pw_cell_below M0.out.below F0.out; have y1 := pw_cell_below M0.out.below F1.out; have y2 := pw_cell_below M0.out.below F2.out; have y3 := pw_cell_below M0.out.below F3.out; have y4 := pw_cell_below M0.out.below F4.out; have y5 := pw_cell_below M0.out.below F5.out
  go_wp2_with fail
  refine (cIsReg gs s ia 2 AR cR _ y1 (Kd.C_below HR.out M0.out.below) hl).mono ?_; rintro e w2 ⟨rfl, hb⟩
  have M2 := Aside0.mk (M0.out.step hb); clear hb M0 z0; clear y0 y1 y2 y3 y4 y5
  go_wp2
  go_ret
  exact ⟨by rw [show mayB x f ⟨5, ia, ib⟩ s = regIs s ia 2 from by unfold mayB; simp]; rfl, M2.out.below⟩
set_option maxHeartbeats 8000000 in
set_option maxRecDepth 100000 in
theorem want6 : WantAt 6 := by
  refine want_at 6 ?_
  rintro x j s gs gx fa c0 A1 c1 AR cR w ia ib f A2 c2 A3 c3 ⟨HFE, G0, HR, HJ, F0, F1, F2, F3, F4, F5, hl, hx, ha, hb, hf⟩
  have hu := Try.underlying37; have hu1 := Try.underlying34; have hu2 := Try.underlying73; have hu3 := Try.underlying76; have hu4 := Try.underlying31; have hu5 := Try.underlying69; have hu6 := Try.underlying105
  have M0 := Aside0.mk ((Mem.start w).allocAt rfl #[.int .i64 6, .int .i64 ia, .int .i64 ib] 76)
  have z0 := M0.out.box (.head _)
  go_enter Try.func101, Try.ntmps101
  go_wp2_with fail
  refine (impl_takesAcc.calls 6 true _ (by unfold impl_takesAcc.f; simp)).mono ?_; rintro e w1 ⟨rfl, ⟨⟨n0, rfl⟩⟩⟩
  have M0 := Aside0.mk (M0.out.draw n0); clear z0
  generalize World.drewN (World.alloc w (.cells #[.int .i64 6, .int .i64 ia, .int .i64 ib] 76)) n0 = wq at M0 ⊢
  have z0 := M0.out.box (.head _)
  have y0 := pw_cell_below M0.out.below F0.out; have y1 := pw_cell_below M0.out.below F1.out; have y2 := pw_cell_below M0.out.below F2.out; have y3 := pw_cell_below M0.out.below F3.out; have y4 := pw_cell_below M0.out.below F4.out; have y5 := pw_cell_below M0.out.below F5.out
  rcases Bool.eq_false_or_eq_true (s.acc == 1) with hacc | hacc
  rotate_left
  · have hacn : (s.acc != 1) = true := by unfold bne; rw [hacc]; rfl
    go_wp2
    go_ret
    exact ⟨by rw [want_no 6 (by decide) (by decide) (by decide) hacc]; rfl, M0.out.below⟩
  have hacn : (s.acc != 1) = false := by unfold bne; rw [hacc]; rfl
  go_wp2_with fail
  refine (cIsReg gs s ia 2 AR cR _ y1 (Kd.C_below HR.out M0.out.below) hl).mono ?_; rintro e w2 ⟨rfl, hb⟩
  have M2 := Aside0.mk (M0.out.step hb); clear hb M0 z0; clear y0 y1 y2 y3 y4 y5
  go_wp2
  go_ret
  exact ⟨by rw [show mayB x f ⟨6, ia, ib⟩ s = regIs s ia 2 from by unfold mayB; simp [hacc]]; rfl, M2.out.below⟩
set_option maxHeartbeats 8000000 in
set_option maxRecDepth 100000 in
theorem want9 : WantAt 9 := by
  refine want_at 9 ?_
  rintro x j s gs gx fa c0 A1 c1 AR cR w ia ib f A2 c2 A3 c3 ⟨HFE, G0, HR, HJ, F0, F1, F2, F3, F4, F5, hl, hx, ha, hb, hf⟩
  have hu := Try.underlying37; have hu1 := Try.underlying34; have hu2 := Try.underlying73; have hu3 := Try.underlying76; have hu4 := Try.underlying31; have hu5 := Try.underlying69; have hu6 := Try.underlying105
  have M0 := Aside0.mk ((Mem.start w).allocAt rfl #[.int .i64 9, .int .i64 ia, .int .i64 ib] 76)
  have z0 := M0.out.box (.head _)
  go_enter Try.func101, Try.ntmps101
  go_wp2_with fail
  refine (impl_takesAcc.calls 9 true _ (by unfold impl_takesAcc.f; simp)).mono ?_; rintro e w1 ⟨rfl, ⟨⟨n0, rfl⟩⟩⟩
  have M0 := Aside0.mk (M0.out.draw n0); clear z0
  generalize World.drewN (World.alloc w (.cells #[.int .i64 9, .int .i64 ia, .int .i64 ib] 76)) n0 = wq at M0 ⊢
  have z0 := M0.out.box (.head _)
  have y0 := pw_cell_below M0.out.below F0.out; have y1 := pw_cell_below M0.out.below F1.out; have y2 := pw_cell_below M0.out.below F2.out; have y3 := pw_cell_below M0.out.below F3.out; have y4 := pw_cell_below M0.out.below F4.out; have y5 := pw_cell_below M0.out.below F5.out
  rcases Bool.eq_false_or_eq_true (s.acc == 1) with hacc | hacc
  rotate_left
  · have hacn : (s.acc != 1) = true := by unfold bne; rw [hacc]; rfl
    go_wp2
    go_ret
    exact ⟨by rw [want_no 9 (by decide) (by decide) (by decide) hacc]; rfl, M0.out.below⟩
  have hacn : (s.acc != 1) = false := by unfold bne; rw [hacc]; rfl
  go_wp2_with fail
  refine (impl_within.calls _ _ _ _ _ (Img.impl_in ia 1 11)).mono ?_; rintro e w1 ⟨rfl, ⟨⟨n1, rfl⟩⟩⟩
  have M1 := Aside0.mk (M0.out.draw n1); clear M0 z0; clear y0 y1 y2 y3 y4 y5
  have z0 := M1.out.box (.head _)
  rcases Bool.eq_false_or_eq_true (Img.inB ia 1 11) with hd | hd
  rotate_left
  · rw [hd]
    go_wp2
    go_ret
    exact ⟨by rw [show mayB x f ⟨9, ia, ib⟩ s = false from by unfold mayB; have h2 : decide (1 ≤ ia ∧ ia ≤ 11) = false := hd; simp only [h2]; simp]; rfl, M1.out.below⟩
  rw [hd]
  have y0 := pw_cell_below M1.out.below F0.out; have y1 := pw_cell_below M1.out.below F1.out; have y2 := pw_cell_below M1.out.below F2.out; have y3 := pw_cell_below M1.out.below F3.out; have y4 := pw_cell_below M1.out.below F4.out; have y5 := pw_cell_below M1.out.below F5.out
  go_wp2_with fail
  refine (cIsReg gs s ib 1 AR cR _ y1 (Kd.C_below HR.out M1.out.below) hl).mono ?_; rintro e w2 ⟨rfl, hb⟩
  have M2 := Aside0.mk (M1.out.step hb); clear hb M1 z0; clear y0 y1 y2 y3 y4 y5
  have HE := Aside0.mk (show mayB x f ⟨9, ia, ib⟩ s = regIs s ib 1 from by unfold mayB; have h2 : decide (1 ≤ ia ∧ ia ≤ 11) = true := hd; simp only [h2, hacc]; simp)
  clear hd
  go_wp2
  go_ret
  exact ⟨by rw [HE.out]; rfl, M2.out.below⟩
set_option maxHeartbeats 8000000 in
set_option maxRecDepth 100000 in
theorem want15 : WantAt 15 := by
  refine want_at 15 ?_
  rintro x j s gs gx fa c0 A1 c1 AR cR w ia ib f A2 c2 A3 c3 ⟨HFE, G0, HR, HJ, F0, F1, F2, F3, F4, F5, hl, hx, ha, hb, hf⟩
  have hu := Try.underlying37; have hu1 := Try.underlying34; have hu2 := Try.underlying73; have hu3 := Try.underlying76; have hu4 := Try.underlying31; have hu5 := Try.underlying69; have hu6 := Try.underlying105
  have M0 := Aside0.mk ((Mem.start w).allocAt rfl #[.int .i64 15, .int .i64 ia, .int .i64 ib] 76)
  have z0 := M0.out.box (.head _)
  go_enter Try.func101, Try.ntmps101
  go_wp2_with fail
  refine (impl_takesAcc.calls 15 false _ (by unfold impl_takesAcc.f; simp)).mono ?_; rintro e w1 ⟨rfl, ⟨⟨n0, rfl⟩⟩⟩
  have M0 := Aside0.mk (M0.out.draw n0); clear z0
  generalize World.drewN (World.alloc w (.cells #[.int .i64 15, .int .i64 ia, .int .i64 ib] 76)) n0 = wq at M0 ⊢
  have z0 := M0.out.box (.head _)
  have y0 := pw_cell_below M0.out.below F0.out; have y1 := pw_cell_below M0.out.below F1.out; have y2 := pw_cell_below M0.out.below F2.out; have y3 := pw_cell_below M0.out.below F3.out; have y4 := pw_cell_below M0.out.below F4.out; have y5 := pw_cell_below M0.out.below F5.out
  obtain ⟨q, rfl⟩ : ∃ q : Nat, ia = q := ⟨ia.toNat, by omega⟩
  go_wp2_with fail
  have C := cCapsAre x j s gs gx fa c0 A1 c1 AR cR _ y0 y1 (Kd.C_below HR.out M0.out.below) hl y2 y3 (Kd.C_below G0.out M0.out.below) HJ.out hx (HFE.out ▸ hf) q
  rw [← HFE.out] at C
  refine C.mono ?_; clear C; rintro e w2 ⟨rfl, hb⟩
  have M2 := Aside0.mk (M0.out.step hb); clear hb M0 z0; clear y0 y1 y2 y3 y4 y5
  have HE := Aside0.mk (show mayB x f ⟨15, (q : Int), ib⟩ s = capsB x f s q from by unfold mayB capsB; simp)
  go_wp2
  go_ret
  exact ⟨by rw [HE.out]; rfl, M2.out.below⟩
set_option maxHeartbeats 8000000 in
set_option maxRecDepth 100000 in
theorem want16 : WantAt 16 := by
  refine want_at 16 ?_
  rintro x j s gs gx fa c0 A1 c1 AR cR w ia ib f A2 c2 A3 c3 ⟨HFE, G0, HR, HJ, F0, F1, F2, F3, F4, F5, hl, hx, ha, hb, hf⟩
  have hu := Try.underlying37; have hu1 := Try.underlying34; have hu2 := Try.underlying73; have hu3 := Try.underlying76; have hu4 := Try.underlying31; have hu5 := Try.underlying69; have hu6 := Try.underlying105
  have M0 := Aside0.mk ((Mem.start w).allocAt rfl #[.int .i64 16, .int .i64 ia, .int .i64 ib] 76)
  have z0 := M0.out.box (.head _)
  go_enter Try.func101, Try.ntmps101
  go_wp2_with fail
  refine (impl_takesAcc.calls 16 false _ (by unfold impl_takesAcc.f; simp)).mono ?_; rintro e w1 ⟨rfl, ⟨⟨n0, rfl⟩⟩⟩
  have M0 := Aside0.mk (M0.out.draw n0); clear z0
  generalize World.drewN (World.alloc w (.cells #[.int .i64 16, .int .i64 ia, .int .i64 ib] 76)) n0 = wq at M0 ⊢
  have z0 := M0.out.box (.head _)
  have y0 := pw_cell_below M0.out.below F0.out; have y1 := pw_cell_below M0.out.below F1.out; have y2 := pw_cell_below M0.out.below F2.out; have y3 := pw_cell_below M0.out.below F3.out; have y4 := pw_cell_below M0.out.below F4.out; have y5 := pw_cell_below M0.out.below F5.out
  have i8 : IntKind.i64.wrap (ia + ib) = ia + ib := IntWalk.i64_in _ (by omega)
  have i9 : wrap64 (ia + ib) = ia + ib := wrap64_id (by omega) (by omega)
  go_upto_region 27 with fail
  clear z0; clear y0 y1 y2 y3 y4 y5
  go_loopw [9] (fun v wx => ∃ k : Nat, v = .int .i64 (ia + (k : Int)) ∧ k ≤ ib.toNat + 1 ∧ argsTo s ia k = true ∧ Aside0 (Mem w wx [Hold.box w.heap.size #[.int .i64 16, .int .i64 ia, .int .i64 ib] 76])) (fun v _ => ib.toNat + 1 - ((intOf v) - ia).toNat)
  case atStart => exact ⟨0, by simp, by omega, rfl, M0⟩
  case round =>
  clear M0
  obtain ⟨k, rfl, hk, hA, M1⟩ := hrel
  have z0 := M1.out.box (.head _)
  have y1 := pw_cell_below M1.out.below F1.out
  have i6 : IntKind.i64.wrap (ia + (k : Int)) = ia + (k : Int) := IntWalk.i64_in _ (by omega)
  have i7 : wrap64 (ia + (k : Int) + 1) = ia + ((k + 1 : Nat) : Int) := by rw [wrap64_id (by omega) (by omega)]; omega
  by_cases hlt : k ≤ ib.toNat
  · have hle : ia + (k : Int) ≤ ia + ib := by omega
    go_wp2_with fail
    refine (cIsReg gs s (ia + (k : Int)) 1 AR cR _ y1 (Kd.C_below HR.out M1.out.below) hl).mono ?_; rintro e w2 ⟨rfl, hb⟩
    have M2 := Aside0.mk (M1.out.step hb); clear hb M1 z0 y1
    rcases Bool.eq_false_or_eq_true (regIs s (ia + (k : Int)) 1) with hq | hq
    · rw [hq]
      go_wp2
      go_roundw
      case measure => simp [intOf]; omega
      case rel => exact ⟨k + 1, by first | go_num | (rw [i7]), by omega, by show (argsTo s ia k && regIs s (ia + (k : Int)) 1) = true; rw [hA, hq]; rfl, M2⟩
    · rw [hq]
      go_wp2
      go_ret
      exact ⟨by rw [show mayB x f ⟨16, ia, ib⟩ s = false from by unfold mayB; simp; exact args_no s ia hq (by omega)]; rfl, M2.out.below⟩
  · have hle : ¬ ia + (k : Int) ≤ ia + ib := by omega
    obtain rfl : k = ib.toNat + 1 := by omega
    go_wp2
    go_ret
    exact ⟨by rw [show mayB x f ⟨16, ia, ib⟩ s = true from by unfold mayB; simp; exact hA]; rfl, M1.out.below⟩
theorem cWants (x : Image) (j : Nat) (s : State) (gs gx : Nat) (fa : Addr) (c0 : Nat) (A1 : Option Addr) (c1 : Nat) (AR : Option Addr) (cR : Nat) (w : World) (hs0 : w.cell? ⟨gs, 0, none⟩ = some (.int .i64 s.acc)) (hs1 : w.cell? ⟨gs, 1, none⟩ = some (.slice AR s.regs.length cR)) (hr : (Kd.int .i64).C w AR s.regs.length s.regs) (hl : s.regs.length ≤ 1048576) (hx0 : w.cell? ⟨gx, 0, none⟩ = some (.slice (some fa) x.funcs.length c0)) (hx1 : w.cell? ⟨gx, 1, none⟩ = some (.slice A1 x.consts.length c1)) (g0 : kFuncI.C w (some fa) x.funcs.length x.funcs) (hj : j < x.funcs.length) (hx : x.funcs.length ≤ 1048576) (hf : (el zFunc x.funcs j).caps.length ≤ 1048576) (i : Ins) (ho : 1 ≤ i.op ∧ i.op ≤ 19) (ha : 0 ≤ i.a ∧ i.a ≤ 300) (hb : 0 ≤ i.b ∧ i.b ≤ 300) :
    Calls Try.prog 101 #[.pointer (some ⟨gs, 0, none⟩), .pointer (some ⟨gx, 0, none⟩), .pointer (some (fa.add (j * 5))), .agg #[.int .i64 i.op, .int .i64 i.a, .int .i64 i.b]] w fun e w' => e = .returned (.bool (mayB x (el zFunc x.funcs j) i s)) ∧ Below w.heap.size w w' := by
  obtain ⟨o, a, b⟩ := i
  have h : o = 1 ∨ o = 2 ∨ o = 3 ∨ o = 4 ∨ o = 5 ∨ o = 6 ∨ o = 7 ∨ o = 8 ∨ o = 9 ∨ o = 10 ∨ o = 11 ∨ o = 12 ∨ o = 13 ∨ o = 14 ∨ o = 15 ∨ o = 16 ∨ o = 17 ∨ o = 18 ∨ o = 19 := by have h := ho; simp only at h; omega
  rcases h with rfl | rfl | rfl | rfl | rfl | rfl | rfl | rfl | rfl | rfl | rfl | rfl | rfl | rfl | rfl | rfl | rfl | rfl | rfl
  · exact want1 x j s gs gx fa c0 A1 c1 AR cR w hs0 hs1 hr hl hx0 hx1 g0 hj hx hf a b ha hb
  · exact want2 x j s gs gx fa c0 A1 c1 AR cR w hs0 hs1 hr hl hx0 hx1 g0 hj hx hf a b ha hb
  · exact want3 x j s gs gx fa c0 A1 c1 AR cR w hs0 hs1 hr hl hx0 hx1 g0 hj hx hf a b ha hb
  · exact want4 x j s gs gx fa c0 A1 c1 AR cR w hs0 hs1 hr hl hx0 hx1 g0 hj hx hf a b ha hb
  · exact want5 x j s gs gx fa c0 A1 c1 AR cR w hs0 hs1 hr hl hx0 hx1 g0 hj hx hf a b ha hb
  · exact want6 x j s gs gx fa c0 A1 c1 AR cR w hs0 hs1 hr hl hx0 hx1 g0 hj hx hf a b ha hb
  · exact want7 x j s gs gx fa c0 A1 c1 AR cR w hs0 hs1 hr hl hx0 hx1 g0 hj hx hf a b ha hb
  · exact want8 x j s gs gx fa c0 A1 c1 AR cR w hs0 hs1 hr hl hx0 hx1 g0 hj hx hf a b ha hb
  · exact want9 x j s gs gx fa c0 A1 c1 AR cR w hs0 hs1 hr hl hx0 hx1 g0 hj hx hf a b ha hb
  · exact want10 x j s gs gx fa c0 A1 c1 AR cR w hs0 hs1 hr hl hx0 hx1 g0 hj hx hf a b ha hb
  · exact want11 x j s gs gx fa c0 A1 c1 AR cR w hs0 hs1 hr hl hx0 hx1 g0 hj hx hf a b ha hb
  · exact want12 x j s gs gx fa c0 A1 c1 AR cR w hs0 hs1 hr hl hx0 hx1 g0 hj hx hf a b ha hb
  · exact want13 x j s gs gx fa c0 A1 c1 AR cR w hs0 hs1 hr hl hx0 hx1 g0 hj hx hf a b ha hb
  · exact want14 x j s gs gx fa c0 A1 c1 AR cR w hs0 hs1 hr hl hx0 hx1 g0 hj hx hf a b ha hb
  · exact want15 x j s gs gx fa c0 A1 c1 AR cR w hs0 hs1 hr hl hx0 hx1 g0 hj hx hf a b ha hb
  · exact want16 x j s gs gx fa c0 A1 c1 AR cR w hs0 hs1 hr hl hx0 hx1 g0 hj hx hf a b ha hb
  · exact want17 x j s gs gx fa c0 A1 c1 AR cR w hs0 hs1 hr hl hx0 hx1 g0 hj hx hf a b ha hb
  · exact want18 x j s gs gx fa c0 A1 c1 AR cR w hs0 hs1 hr hl hx0 hx1 g0 hj hx hf a b ha hb
  · exact want19 x j s gs gx fa c0 A1 c1 AR cR w hs0 hs1 hr hl hx0 hx1 g0 hj hx hf a b ha hb
end Go.Proofs.Ytcbaokflimdjnaa.Flow
end
section
namespace Go.Proofs.Ytcbaokflimdjnaa.Flow
open Go.RowKit Go.Proofs.YtcbaokflimdjnaaW.PrintWords Go.Proofs.YtcbaokflimdjnaaW.PrintLast Go.Proofs.Ytcbaokflimdjnaa.Steps Go.Proofs.YtcbaokflimdjnaaW.PrintMore Go.Proofs.Ytcbaokflimdjnaa.Law Go.Proofs.Ytcbaokflimdjnaa Go.Proofs.Ytcbaokflimdjnaa.Num Go.Proofs.Ytcbaokflimdjnaa.QFnExactVerify
set_option linter.unusedVariables false
set_option linter.unusedSimpArgs false
set_option autoImplicit false
/-- A row is apart from a box of another type. -/
theorem R_off {α : Type} {d : Kd α} {e : TypeId} {W : World} {base : Nat} {ok : Nat → Prop} {v : Value} {xs : List α} {g : Nat} {t : TypeId} {cells : Array Value} (h : d.R e W base ok v xs) (hb : W.heap[g]? = some (.cells cells t (0, 0))) (ht : ∀ q ∈ e :: d.E, q ≠ t) : d.R e W base (fun k => k ≠ g) v xs :=
  Kd.R_mono (Kd.R_bound h) (fun k hk hkg => by
    obtain ⟨_, _, _, q, hq, c, hc⟩ := hk
    subst hkg
    rw [hb] at hc
    injection hc with hc
    injection hc with _ hc
    exact ht q hq hc.symm)
def afterS.T1 : Bool × List (List Nat × List Nat) := (true, [([], []), ([0], [0]), ([], []), ([], []), ([3], [3]), ([2, 4], [2, 4]), ([1, 5], [1, 5]), ([], []), ([7, 6, 5, 0, 1, 2, 3, 4, 5, 6, 7], [6, 7])])
def afterS.B1 : List Nat := [0, 1, 0, 0, 8, 28, 63, 0, 255]
theorem afterS.tab1 : rtab .any (opsOf Try.f55 1) = afterS.T1 := by kernel_rfl
theorem afterS.bits1 : waitsOk afterS.T1.2 afterS.B1 = true := by kernel_rfl
set_option maxHeartbeats 8000000 in
set_option maxRecDepth 100000 in
theorem cAfter (i : Ins) (s : State) (cs : List Value) (w : World) (hk : kStateI.K w s cs) (ho : 1 ≤ i.op ∧ i.op ≤ 19) (ha : 0 ≤ i.a) (hr : i.op = 3 ∨ i.op = 4 → i.a < (s.regs.length : Int)) (hl : s.regs.length ≤ 1048576) :
    Calls Try.prog 55 #[.agg #[.int .i64 i.op, .int .i64 i.a, .int .i64 i.b], .agg ⟨cs⟩] w fun e w' => ∃ ds, e = .returned (.agg ⟨ds⟩) ∧ kStateI.M w' w.heap.size (fun _ => True) (afterS i s) ds ∧ Below w.heap.size w w' := by
  obtain ⟨AR, cR, rfl, hcR, hrr⟩ := kStateI_open hk
  have HR := Aside0.mk hrr; clear hrr hk
  have hu := Try.underlying31; have hu1 := Try.underlying26; have hu3 := Try.underlying76
  have M0 := Aside0.mk ((((Mem.start w).allocAt rfl #[.int .i64 i.op, .int .i64 i.a, .int .i64 i.b] 76).allocAt (g := w.heap.size + 1) (by simp) #[.int .i64 s.acc, .slice AR s.regs.length cR] 31).allocAt (g := w.heap.size + 2) (by simp) #[.int .i64 0, .slice none 0 0] 31)
  have z0 := M0.out.box (.tail _ (.tail _ (.head _)))
  go_enter Try.func55, Try.ntmps55
  go_upto_region 1 with fail
  clear z0
  generalize hwq : ((w.alloc (.cells #[.int .i64 i.op, .int .i64 i.a, .int .i64 i.b] 76)).alloc (.cells #[.int .i64 s.acc, .slice AR s.regs.length cR] 31)).alloc (.cells #[.int .i64 0, .slice none 0 0] 31) = wq at M0 ⊢
  have hsz : wq.heap.size = w.heap.size + 3 := by rw [← hwq]; simp
  clear hwq
  go_cut [5] (fun u wx => ∃ (g : Nat) (A : Option Addr) (y : Nat) (W : World), u = .pointer (some ⟨g, 0, none⟩) ∧ Aside0 (W = wx) ∧ Aside0 (Mem w W [Hold.box (w.heap.size + 2) #[.int .i64 0, .slice none 0 0] 31, Hold.box (w.heap.size + 1) #[.int .i64 s.acc, .slice AR s.regs.length cR] 31, Hold.box w.heap.size #[.int .i64 i.op, .int .i64 i.a, .int .i64 i.b] 76]) ∧ Aside0 (W.heap[g]? = some (.cells #[.int .i64 s.acc, .slice A s.regs.length y] 31 (0, 0))) ∧ Aside0 (w.heap.size + 3 ≤ g) ∧ Aside0 ((Kd.int .i64).R 3 W (w.heap.size + 3) (fun k => k ≠ g) (.slice A s.regs.length y) s.regs))
  case first =>
    have MD := Aside0.mk M0.out.drew; have HS3 := Aside0.mk (show wq.drew.heap.size = w.heap.size + 3 from hsz)
    clear M0 hsz
    refine sz 9 (fun W => W.cell? ⟨w.heap.size + 1, 0, none⟩ = some (.int .i64 s.acc) ∧ W.cell? ⟨w.heap.size + 1, 1, none⟩ = some (.slice AR s.regs.length cR)) [8] afterS.tab1 afterS.bits1 ⟨(MD.out.box (.tail _ (.head _)) 0).trans rfl, (MD.out.box (.tail _ (.head _)) 1).trans rfl⟩ (fun HT_ HW_ hHeld => ?_)
    generalize wq.drew = wd at MD HS3 hHeld ⊢
    have CD := Aside0.mk (Below.refl wd.heap.size wd)
    refine pz 0 6 ?_; refine pz 3 9 ?_; refine tz 1 7 ?_; refine tz 4 10 ?_
    refine twz 2 7 (some 8) (some 5) (fun K hK => ?_) (fun K hK => ?_)
    · skip
      refine Kd.R_lit_step (Kd.int .i64) (w0 := wd) wd.heap.size 3 ?hg (N := 8) ?hd (xs := ([] : List Int)) (inner := []) (ok := fun _ => True) (okp := fun _ => True) ?hr ?hp (fun _ hk => hk) trivial CD.out CD.out.size (by simp) ?_; (case hd => rfl); (case hg => rfl); (case hr => first | (go_simp; done) | (go_simp; rfl)); (case hp => exact (Reps.none _ _))
      intro v5 w5 ho hb hg_ hnew_; clear hnew_
      have HO := Aside0.mk ho; have CL := Aside0.mk hb; have ML := Aside0.mk (MD.out.step hb)
      clear ho hb hg_
      refine hK.out _ _ ⟨(ML.out.box (.tail _ (.head _)) 0).trans rfl, (ML.out.box (.tail _ (.head _)) 1).trans rfl⟩ (fun hHeld => ?_); clear hK K; refine kz (some 8) ?_
      refine twz 5 7 (some 11) (some 5) (fun K hK => ?_) (fun K hK => ?_)
      · skip
        refine Kd.R_append_rows_step (Kd.int .i64) (w0 := wd) wd.heap.size (by rfl) (.tmp 8) (.tmp 10) 26 3 (.int .i64 0) 8 rfl Try.underlying26 info3 rfl (by decide) (by omega) v5 [] s.regs _ _ _ (fun _ => True) (fun _ => False) rfl rfl ?aO ?aR (fun _ _ h => h) (fun _ h => h.elim) ?aF ?aB ?aS ?aL ?_
        (case aR => exact Kd.C_below (Kd.C_below HR.out MD.out.below) CL.out)
        (case aO => exact HO.out)
        (case aF => exact fun _ _ => trivial)
        (case aB => exact CL.out)
        (case aS => exact CL.out.size)
        (case aL => simp; omega)
        intro v6 w6 ho hb hg_ hat_; clear hat_
        rw [List.nil_append] at ho
        obtain ⟨A6, y6, rfl⟩ := Kd.R_slice ho
        have HA := Aside0.mk ho; have CA := Aside0.mk hb; have MA := Aside0.mk (MD.out.step hb)
        clear ho hb hg_
        refine hK.out _ _ ⟨(MA.out.box (.tail _ (.head _)) 0).trans rfl, (MA.out.box (.tail _ (.head _)) 1).trans rfl⟩ (fun hHeld => ?_); clear hK K; refine kz (some 11) ?_
        refine pz 6 12 ?_
        refine ez 7 (some 5) (fun K hK => ?_)
        refine box_step ?hg (N := 5) ?hd (cs := #[.int .i64 0, .slice none 0 0]) (t := 31) ?hr ?_; (case hd => rfl); (case hg => rfl); (case hr => first | (go_simp; done) | (go_simp; rfl))
        intro g5 hg w7 hbx hbb
        have CB := Aside0.mk (below_step CA.out hbb); have MB := Aside0.mk (MD.out.step CB.out); have KB := Aside0.mk hbx; have HG := Aside0.mk (show w.heap.size + 3 ≤ g5 by have h1 := CA.out.size; have h2 := HS3.out; omega)
        have HB := Aside0.mk (Kd.R_below HA.out hbb)
        clear hg hbx hbb
        refine hK.out _ _ ⟨(MB.out.box (.tail _ (.head _)) 0).trans rfl, (MB.out.box (.tail _ (.head _)) 1).trans rfl⟩ (fun hHeld => ?_); clear hK K; refine kz (some 5) ?_
        refine lz 8 none (fun K hK => ?_)
        have b0 := fun o => blk_cell KB.out o; have b1 := fun o => blk_frozen KB.out o
        refine skip_ (w1 := ?_) (by rfl) rfl ?_ ?_
        rotate_left
        · go_simp
          rfl
        clear b0 b1
        refine hK.out _ _ ?_; clear hK K
        refine dz ?_
        clear hHeld
        have hg := HG.out; have hs := HS3.out
        have hw : wd.heap.size ≤ g5 := by omega
        have RR := Kd.R_far (Kd.R_far (R_off (Kd.R_lower HB.out (Nat.le_of_eq hs.symm)) KB.out (by decide)) (fun _ h => h) (p := ⟨g5, 0, none⟩) (.int .i64 s.acc)) (fun _ h => h) (p := ⟨g5, 1, none⟩) (.slice A6 s.regs.length y6)
        have K5 := blk_put (blk_put KB.out 0 (.int .i64 s.acc) rfl) 1 (.slice A6 s.regs.length y6) rfl
        have M5 := MD.out.step (below_set (g := g5) (j := 1) (v := .slice A6 s.regs.length y6) (below_set (g := g5) (j := 0) (v := .int .i64 s.acc) CB.out hw) hw)
        try go_wp2_with fail
        go_meet
        exact ⟨g5, A6, y6, _, rfl, ⟨rfl⟩, ⟨M5⟩, ⟨K5⟩, HG, ⟨RR⟩⟩
      · skip
        refine box_step ?hg (N := 5) ?hd (cs := #[.int .i64 0, .slice none 0 0]) (t := 31) ?hr ?_; (case hd => rfl); (case hg => rfl); (case hr => first | (go_simp; done) | (go_simp; rfl))
        intro g5 hg w7 hbx hbb
        have CB := Aside0.mk (below_step CL.out hbb); have MB := Aside0.mk (MD.out.step CB.out); have KB := Aside0.mk hbx; have HG := Aside0.mk (show w.heap.size + 3 ≤ g5 by have h1 := CL.out.size; have h2 := HS3.out; omega)
        have HB := Aside0.mk (Kd.R_below HO.out hbb)
        clear hg hbx hbb
        refine hK.out _ _ ⟨(MB.out.box (.tail _ (.head _)) 0).trans rfl, (MB.out.box (.tail _ (.head _)) 1).trans rfl⟩ (fun hHeld => ?_); clear hK K; refine kz (some 5) ?_
        refine ez 5 (some 11) (fun K hK => ?_)
        refine Kd.R_append_rows_step (Kd.int .i64) (w0 := wd) wd.heap.size (by rfl) (.tmp 8) (.tmp 10) 26 3 (.int .i64 0) 8 rfl Try.underlying26 info3 rfl (by decide) (by omega) v5 [] s.regs _ _ _ (fun _ => True) (fun _ => False) rfl rfl ?aO ?aR (fun _ _ h => h) (fun _ h => h.elim) ?aF ?aB ?aS ?aL ?_
        (case aR => exact Kd.C_below (Kd.C_below HR.out MD.out.below) CB.out)
        (case aO => exact HB.out)
        (case aF => exact fun _ _ => trivial)
        (case aB => exact CB.out)
        (case aS => exact CB.out.size)
        (case aL => simp; omega)
        intro v6 w6 ho hb hg_ hat_; clear hat_
        rw [List.nil_append] at ho
        obtain ⟨A6, y6, rfl⟩ := Kd.R_slice ho
        have HA := Aside0.mk ho; have CA := Aside0.mk hb; have MA := Aside0.mk (MD.out.step hb)
        have KA := Aside0.mk (blk_grown KB.out hg_ (Kd.R_ne HB.out KB.out (by decide)))
        clear ho hb hg_
        refine hK.out _ _ ⟨(MA.out.box (.tail _ (.head _)) 0).trans rfl, (MA.out.box (.tail _ (.head _)) 1).trans rfl⟩ (fun hHeld => ?_); clear hK K; refine kz (some 11) ?_
        refine pz 6 12 ?_
        refine lz 8 none (fun K hK => ?_)
        have b0 := fun o => blk_cell KA.out o; have b1 := fun o => blk_frozen KA.out o
        refine skip_ (w1 := ?_) (by rfl) rfl ?_ ?_
        rotate_left
        · go_simp
          rfl
        clear b0 b1
        refine hK.out _ _ ?_; clear hK K
        refine dz ?_
        clear hHeld
        have hg := HG.out; have hs := HS3.out
        have hw : wd.heap.size ≤ g5 := by omega
        have RR := Kd.R_far (Kd.R_far (R_off (Kd.R_lower HA.out (Nat.le_of_eq hs.symm)) KA.out (by decide)) (fun _ h => h) (p := ⟨g5, 0, none⟩) (.int .i64 s.acc)) (fun _ h => h) (p := ⟨g5, 1, none⟩) (.slice A6 s.regs.length y6)
        have K5 := blk_put (blk_put KA.out 0 (.int .i64 s.acc) rfl) 1 (.slice A6 s.regs.length y6) rfl
        have M5 := MD.out.step (below_set (g := g5) (j := 1) (v := .slice A6 s.regs.length y6) (below_set (g := g5) (j := 0) (v := .int .i64 s.acc) CA.out hw) hw)
        try go_wp2_with fail
        go_meet
        exact ⟨g5, A6, y6, _, rfl, ⟨rfl⟩, ⟨M5⟩, ⟨K5⟩, HG, ⟨RR⟩⟩
    · skip
      refine box_step ?hg (N := 5) ?hd (cs := #[.int .i64 0, .slice none 0 0]) (t := 31) ?hr ?_; (case hd => rfl); (case hg => rfl); (case hr => first | (go_simp; done) | (go_simp; rfl))
      intro g5 hg w7 hbx hbb
      have CB := Aside0.mk (below_step CD.out hbb); have MB := Aside0.mk (MD.out.step CB.out); have KB := Aside0.mk hbx; have HG := Aside0.mk (show w.heap.size + 3 ≤ g5 by have h1 := CD.out.size; have h2 := HS3.out; omega)
      clear hg hbx hbb
      refine hK.out _ _ ⟨(MB.out.box (.tail _ (.head _)) 0).trans rfl, (MB.out.box (.tail _ (.head _)) 1).trans rfl⟩ (fun hHeld => ?_); clear hK K; refine kz (some 5) ?_
      refine ez 2 (some 8) (fun K hK => ?_)
      refine Kd.R_lit_step (Kd.int .i64) (w0 := wd) wd.heap.size 3 ?hg (N := 8) ?hd (xs := ([] : List Int)) (inner := []) (ok := fun _ => True) (okp := fun _ => True) ?hr ?hp (fun _ hk => hk) trivial CB.out CB.out.size (by simp) ?_; (case hd => rfl); (case hg => rfl); (case hr => first | (go_simp; done) | (go_simp; rfl)); (case hp => exact (Reps.none _ _))
      intro v5 w5 ho hb hg_ hnew_; clear hnew_
      have HO := Aside0.mk ho; have CL := Aside0.mk hb; have ML := Aside0.mk (MD.out.step hb)
      have KL := Aside0.mk (blk_grown KB.out hg_ (by simp))
      clear ho hb hg_
      refine hK.out _ _ ⟨(ML.out.box (.tail _ (.head _)) 0).trans rfl, (ML.out.box (.tail _ (.head _)) 1).trans rfl⟩ (fun hHeld => ?_); clear hK K; refine kz (some 8) ?_
      refine ez 5 (some 11) (fun K hK => ?_)
      refine Kd.R_append_rows_step (Kd.int .i64) (w0 := wd) wd.heap.size (by rfl) (.tmp 8) (.tmp 10) 26 3 (.int .i64 0) 8 rfl Try.underlying26 info3 rfl (by decide) (by omega) v5 [] s.regs _ _ _ (fun _ => True) (fun _ => False) rfl rfl ?aO ?aR (fun _ _ h => h) (fun _ h => h.elim) ?aF ?aB ?aS ?aL ?_
      (case aR => exact Kd.C_below (Kd.C_below HR.out MD.out.below) CL.out)
      (case aO => exact HO.out)
      (case aF => exact fun _ _ => trivial)
      (case aB => exact CL.out)
      (case aS => exact CL.out.size)
      (case aL => simp; omega)
      intro v6 w6 ho hb hg_ hat_; clear hat_
      rw [List.nil_append] at ho
      obtain ⟨A6, y6, rfl⟩ := Kd.R_slice ho
      have HA := Aside0.mk ho; have CA := Aside0.mk hb; have MA := Aside0.mk (MD.out.step hb)
      have KA := Aside0.mk (blk_grown KL.out hg_ (Kd.R_ne HO.out KL.out (by decide)))
      clear ho hb hg_
      refine hK.out _ _ ⟨(MA.out.box (.tail _ (.head _)) 0).trans rfl, (MA.out.box (.tail _ (.head _)) 1).trans rfl⟩ (fun hHeld => ?_); clear hK K; refine kz (some 11) ?_
      refine pz 6 12 ?_
      refine lz 8 none (fun K hK => ?_)
      have b0 := fun o => blk_cell KA.out o; have b1 := fun o => blk_frozen KA.out o
      refine skip_ (w1 := ?_) (by rfl) rfl ?_ ?_
      rotate_left
      · go_simp
        rfl
      clear b0 b1
      refine hK.out _ _ ?_; clear hK K
      refine dz ?_
      clear hHeld
      have hg := HG.out; have hs := HS3.out
      have hw : wd.heap.size ≤ g5 := by omega
      have RR := Kd.R_far (Kd.R_far (R_off (Kd.R_lower HA.out (Nat.le_of_eq hs.symm)) KA.out (by decide)) (fun _ h => h) (p := ⟨g5, 0, none⟩) (.int .i64 s.acc)) (fun _ h => h) (p := ⟨g5, 1, none⟩) (.slice A6 s.regs.length y6)
      have K5 := blk_put (blk_put KA.out 0 (.int .i64 s.acc) rfl) 1 (.slice A6 s.regs.length y6) rfl
      have M5 := MD.out.step (below_set (g := g5) (j := 1) (v := .slice A6 s.regs.length y6) (below_set (g := g5) (j := 0) (v := .int .i64 s.acc) CA.out hw) hw)
      try go_wp2_with fail
      go_meet
      exact ⟨g5, A6, y6, _, rfl, ⟨rfl⟩, ⟨M5⟩, ⟨K5⟩, HG, ⟨RR⟩⟩
  case rest =>
  obtain ⟨g, A, y, W, rfl, HW, M1, K5, HG, R5⟩ := hcut
  have hw3 := HW.out; subst hw3; clear HW M0
  have z0 := M1.out.box (.tail _ (.tail _ (.head _))); have z2 := M1.out.box (.head _); have f2 := M1.out.free (.head _); have z5 := fun o => blk_cell K5.out o; have f5 := fun o => blk_frozen K5.out o
  have hd1 : ¬ (w.heap.size + 1 + 1 = g) := by have := HG.out; omega
  have hd2 : ¬ (g = w.heap.size + 1 + 1) := by have := HG.out; omega
  have hd3 : ¬ (w.heap.size + 2 = g) := by have := HG.out; omega
  have hd4 : ¬ (g = w.heap.size + 2) := by have := HG.out; omega
  go_upto_region 3 with fail
  rcases Bool.eq_false_or_eq_true (givesB i.op) with hgv | hgv
  · have HA := Aside0.mk (show afterS i s = ⟨1, s.regs⟩ from by unfold afterS; rw [if_pos hgv])
    have hop : i.op = 1 ∨ i.op = 2 ∨ i.op = 5 ∨ i.op = 7 ∨ i.op = 9 ∨ i.op = 10 ∨ i.op = 11 ∨ i.op = 15 ∨ i.op = 16 := by simpa [givesB] using hgv
    clear hgv
    have K6 := blk_put K5.out 0 (.int .i64 1) rfl
    have R6 := Kd.R_far R5.out (fun _ h => h) (p := ⟨g, 0, none⟩) (.int .i64 1)
    have B6 := below_set (g := g) (j := 0) (v := .int .i64 1) M1.out.below (by have := HG.out; simp; omega)
    have H4 := (Below.heap_setCell W ⟨g, 0, none⟩ (.int .i64 1) (w.heap.size + 2) (by have := HG.out; simp; omega)).trans (M1.out.blk (.head _))
    have X6 := Aside0.mk R6; have X7 := Aside0.mk B6; have X8 := Aside0.mk H4; clear R6 B6 H4 K6
    rcases hop with hop | hop | hop | hop | hop | hop | hop | hop | hop <;> (
      have q1 := congrArg (fun z : Int => z == 1) hop; have q2 := congrArg (fun z : Int => z == 2) hop; have q5 := congrArg (fun z : Int => z == 5) hop; have q7 := congrArg (fun z : Int => z == 7) hop; have q9 := congrArg (fun z : Int => z == 9) hop; have q10 := congrArg (fun z : Int => z == 10) hop; have q11 := congrArg (fun z : Int => z == 11) hop; have q15 := congrArg (fun z : Int => z == 15) hop; have q16 := congrArg (fun z : Int => z == 16) hop
      simp only [Int.reduceBEq] at q1 q2 q5 q7 q9 q10 q11 q15 q16
      have K4b := blk_put (blk_put X8.out 0 (.int .i64 1) rfl) 1 (.slice A s.regs.length y) rfl
      have HB2 := below_set (g := w.heap.size + 2) (j := 1) (v := .slice A s.regs.length y) (below_set (g := w.heap.size + 2) (j := 0) (v := .int .i64 1) X7.out (by omega)) (by omega)
      have RF := Kd.R_far (Kd.R_far (Kd.R_mono (Kd.R_bound X6.out) (fun k hk => show k ≠ w.heap.size + 2 by have := hk.2.1; omega)) (fun _ h => h) (p := ⟨w.heap.size + 2, 0, none⟩) (.int .i64 1)) (fun _ h => h) (p := ⟨w.heap.size + 2, 1, none⟩) (.slice A s.regs.length y)
      have K4c := Aside0.mk K4b; have HB3 := Aside0.mk HB2; have RG := Aside0.mk (Kd.R_mono (Kd.R_lower RF (show w.heap.size ≤ w.heap.size + 3 by omega)) (ok' := fun _ => True) (fun _ _ => trivial)); clear K4b HB2 RF
      go_wp2
      refine bodyPost_ret (results_cell_row rfl _ _ (w.heap.size + 2) 31 #[.int .i64 1, .slice A s.regs.length y] (0, 0) _ rfl K4c.out hu rfl (by kernel_rfl)) rfl ?_
      refine ⟨_, rfl, ?_, HB3.out⟩
      rw [HA.out]
      exact kStateI_mkM _ _ _ ⟨1, s.regs⟩ RG.out)
  have hno : ¬ (i.op = 1 ∨ i.op = 2 ∨ i.op = 5 ∨ i.op = 7 ∨ i.op = 9 ∨ i.op = 10 ∨ i.op = 11 ∨ i.op = 15 ∨ i.op = 16) := by simpa [givesB] using hgv

  have q1 : (i.op == 1) = false := by simp; omega
  have q2 : (i.op == 2) = false := by simp; omega
  have q5 : (i.op == 5) = false := by simp; omega
  have q7 : (i.op == 7) = false := by simp; omega
  have q9 : (i.op == 9) = false := by simp; omega
  have q10 : (i.op == 10) = false := by simp; omega
  have q11 : (i.op == 11) = false := by simp; omega
  have q15 : (i.op == 15) = false := by simp; omega
  have q16 : (i.op == 16) = false := by simp; omega
  by_cases h3 : i.op = 3
  · have q3 : (i.op == 3) = true := by simp [h3]
    have HA := Aside0.mk (show afterS i s = ⟨s.acc, s.regs.set i.a.toNat 1⟩ from by unfold afterS givesB; rw [h3]; simp)
    have hlt := hr (by omega)
    obtain ⟨qa, hqa⟩ : ∃ qa : Nat, i.a = qa := ⟨i.a.toNat, by omega⟩
    have hql : qa < s.regs.length := by omega
    have hq0 : (0 : Int) ≤ (qa : Int) := by omega
    have hq1 : (qa : Int) < (s.regs.length : Int) := by omega
    obtain ⟨gq, cq, hgq, hgb, hgl, _⟩ := Kd.R_form R5.out (by omega)
    injection hgq with e1 e2 e3; subst e1; subst e3; clear e2
    obtain ⟨k0, k1⟩ := Kd.R_celln 0 R5.out (qa : Int) (by omega) (by omega)
    rw [Int.toNat_natCast] at k0 k1
    have hne : gq ≠ g := R5.out.1 gq (by simp [Value.ownBlock])
    obtain ⟨hp1, hp2⟩ := Kd.R_putg R5.out (qa : Int) 1
    rw [Int.toNat_natCast] at hp1 hp2
    have hwq : w.heap.size ≤ gq := by omega
    have hd5 : ¬ (w.heap.size + 1 + 1 = gq) := by omega
    have hd6 : ¬ (gq = w.heap.size + 1 + 1) := by omega
    have hd7 : ¬ (g = gq) := fun h => hne h.symm
    have hd8 : ¬ (gq = g) := hne
    have B6 := below_set (g := gq) (j := qa) (v := .int .i64 1) M1.out.below hwq
    have H4 := (Below.heap_setCell W ⟨gq, qa, none⟩ (.int .i64 1) (w.heap.size + 2) (by simp; omega)).trans (M1.out.blk (.head _))
    have X6 := Aside0.mk hp1; have X7 := Aside0.mk B6; have X8 := Aside0.mk H4; clear hp1 hp2 B6 H4
    rw [hqa] at z0 HA
    rw [Int.toNat_natCast] at HA
    have K4b := blk_put (blk_put X8.out 0 (.int .i64 s.acc) rfl) 1 (.slice (some ⟨gq, 0, none⟩) s.regs.length y) rfl
    have HB2 := below_set (g := w.heap.size + 2) (j := 1) (v := .slice (some ⟨gq, 0, none⟩) s.regs.length y) (below_set (g := w.heap.size + 2) (j := 0) (v := .int .i64 s.acc) X7.out (by omega)) (by omega)
    have RF := Kd.R_far (Kd.R_far (Kd.R_mono (Kd.R_bound X6.out) (fun k hk => show k ≠ w.heap.size + 2 by have := hk.2.1; omega)) (fun _ h => h) (p := ⟨w.heap.size + 2, 0, none⟩) (.int .i64 s.acc)) (fun _ h => h) (p := ⟨w.heap.size + 2, 1, none⟩) (.slice (some ⟨gq, 0, none⟩) s.regs.length y)
    have K4c := Aside0.mk K4b; have HB3 := Aside0.mk HB2; have RG := Aside0.mk (Kd.R_mono (Kd.R_lower RF (show w.heap.size ≤ w.heap.size + 3 by omega)) (ok' := fun _ => True) (fun _ _ => trivial)); clear K4b HB2 RF
    go_wp2
    refine bodyPost_ret (results_cell_row rfl _ _ (w.heap.size + 2) 31 #[.int .i64 s.acc, .slice (some ⟨gq, 0, none⟩) s.regs.length y] (0, 0) _ rfl K4c.out hu rfl (by kernel_rfl)) rfl ?_
    refine ⟨_, rfl, ?_, HB3.out⟩
    rw [HA.out]
    exact kStateI_mkM _ _ _ ⟨s.acc, s.regs.set qa 1⟩ RG.out
  by_cases h4 : i.op = 4
  · have q4 : (i.op == 4) = true := by simp [h4]
    have q3 : (i.op == 3) = false := by simp [h4]
    have HA := Aside0.mk (show afterS i s = ⟨s.acc, s.regs.set i.a.toNat 2⟩ from by unfold afterS givesB; rw [h4]; simp)
    have hlt := hr (by omega)
    obtain ⟨qa, hqa⟩ : ∃ qa : Nat, i.a = qa := ⟨i.a.toNat, by omega⟩
    have hql : qa < s.regs.length := by omega
    have hq0 : (0 : Int) ≤ (qa : Int) := by omega
    have hq1 : (qa : Int) < (s.regs.length : Int) := by omega
    obtain ⟨gq, cq, hgq, hgb, hgl, _⟩ := Kd.R_form R5.out (by omega)
    injection hgq with e1 e2 e3; subst e1; subst e3; clear e2
    obtain ⟨k0, k1⟩ := Kd.R_celln 0 R5.out (qa : Int) (by omega) (by omega)
    rw [Int.toNat_natCast] at k0 k1
    have hne : gq ≠ g := R5.out.1 gq (by simp [Value.ownBlock])
    obtain ⟨hp1, hp2⟩ := Kd.R_putg R5.out (qa : Int) 2
    rw [Int.toNat_natCast] at hp1 hp2
    have hwq : w.heap.size ≤ gq := by omega
    have hd5 : ¬ (w.heap.size + 1 + 1 = gq) := by omega
    have hd6 : ¬ (gq = w.heap.size + 1 + 1) := by omega
    have hd7 : ¬ (g = gq) := fun h => hne h.symm
    have hd8 : ¬ (gq = g) := hne
    have B6 := below_set (g := gq) (j := qa) (v := .int .i64 2) M1.out.below hwq
    have H4 := (Below.heap_setCell W ⟨gq, qa, none⟩ (.int .i64 2) (w.heap.size + 2) (by simp; omega)).trans (M1.out.blk (.head _))
    have X6 := Aside0.mk hp1; have X7 := Aside0.mk B6; have X8 := Aside0.mk H4; clear hp1 hp2 B6 H4
    rw [hqa] at z0 HA
    rw [Int.toNat_natCast] at HA
    have K4b := blk_put (blk_put X8.out 0 (.int .i64 s.acc) rfl) 1 (.slice (some ⟨gq, 0, none⟩) s.regs.length y) rfl
    have HB2 := below_set (g := w.heap.size + 2) (j := 1) (v := .slice (some ⟨gq, 0, none⟩) s.regs.length y) (below_set (g := w.heap.size + 2) (j := 0) (v := .int .i64 s.acc) X7.out (by omega)) (by omega)
    have RF := Kd.R_far (Kd.R_far (Kd.R_mono (Kd.R_bound X6.out) (fun k hk => show k ≠ w.heap.size + 2 by have := hk.2.1; omega)) (fun _ h => h) (p := ⟨w.heap.size + 2, 0, none⟩) (.int .i64 s.acc)) (fun _ h => h) (p := ⟨w.heap.size + 2, 1, none⟩) (.slice (some ⟨gq, 0, none⟩) s.regs.length y)
    have K4c := Aside0.mk K4b; have HB3 := Aside0.mk HB2; have RG := Aside0.mk (Kd.R_mono (Kd.R_lower RF (show w.heap.size ≤ w.heap.size + 3 by omega)) (ok' := fun _ => True) (fun _ _ => trivial)); clear K4b HB2 RF
    go_wp2
    refine bodyPost_ret (results_cell_row rfl _ _ (w.heap.size + 2) 31 #[.int .i64 s.acc, .slice (some ⟨gq, 0, none⟩) s.regs.length y] (0, 0) _ rfl K4c.out hu rfl (by kernel_rfl)) rfl ?_
    refine ⟨_, rfl, ?_, HB3.out⟩
    rw [HA.out]
    exact kStateI_mkM _ _ _ ⟨s.acc, s.regs.set qa 2⟩ RG.out
  have q3 : (i.op == 3) = false := by simp [h3]
  have q4 : (i.op == 4) = false := by simp [h4]
  have HA := Aside0.mk (show afterS i s = s from by unfold afterS; rw [if_neg (by rw [hgv]; decide), if_neg h3, if_neg h4])
  have X6 := R5; have X7 := Aside0.mk M1.out.below; have X8 := Aside0.mk (M1.out.blk (.head _))
  have K4b := blk_put (blk_put X8.out 0 (.int .i64 s.acc) rfl) 1 (.slice A s.regs.length y) rfl
  have HB2 := below_set (g := w.heap.size + 2) (j := 1) (v := .slice A s.regs.length y) (below_set (g := w.heap.size + 2) (j := 0) (v := .int .i64 s.acc) X7.out (by omega)) (by omega)
  have RF := Kd.R_far (Kd.R_far (Kd.R_mono (Kd.R_bound X6.out) (fun k hk => show k ≠ w.heap.size + 2 by have := hk.2.1; omega)) (fun _ h => h) (p := ⟨w.heap.size + 2, 0, none⟩) (.int .i64 s.acc)) (fun _ h => h) (p := ⟨w.heap.size + 2, 1, none⟩) (.slice A s.regs.length y)
  have K4c := Aside0.mk K4b; have HB3 := Aside0.mk HB2; have RG := Aside0.mk (Kd.R_mono (Kd.R_lower RF (show w.heap.size ≤ w.heap.size + 3 by omega)) (ok' := fun _ => True) (fun _ _ => trivial)); clear K4b HB2 RF
  go_wp2
  refine bodyPost_ret (results_cell_row rfl _ _ (w.heap.size + 2) 31 #[.int .i64 s.acc, .slice A s.regs.length y] (0, 0) _ rfl K4c.out hu rfl (by kernel_rfl)) rfl ?_
  refine ⟨_, rfl, ?_, HB3.out⟩
  rw [HA.out]
  exact kStateI_mkM _ _ _ ⟨s.acc, s.regs⟩ RG.out
end Go.Proofs.Ytcbaokflimdjnaa.Flow
end
section
namespace Go.Proofs.Ytcbaokflimdjnaa.QFnExactVerify
open Go.RowKit Go.Proofs.YtcbaokflimdjnaaW.PrintWords Go.Proofs.YtcbaokflimdjnaaW.PrintLast Go.Proofs.YtcbaokflimdjnaaW.PrintMore
attribute [local go_sem] max_two min_two max_three min_three max_four min_four run_field194_0 max2_mx min2_mn   -- for this text's walks alone
set_option linter.unusedVariables false
set_option linter.unusedSimpArgs false
/-- A state of type 31 at block g of W; what its slices lead to came in by w0. -/
def IsS31 (w0 W : World) (g : Nat) (f0 : Int) (f1 : List Int) : Prop := ∃ A1 c1, W.heap[g]? = some (.cells #[.int .i64 f0, .slice A1 f1.length c1] 31 (0, 0)) ∧ w0.heap.size ≤ g ∧ Kd.C (Kd.int .i64) w0 A1 f1.length f1
theorem IsS31.grown {w0 W : World} {g : Nat} {f0 : Int} {f1 : List Int} {W1 : World} {row : Option Nat} (h : IsS31 w0 W g f0 f1) (hw : W.grownBy W1 row) (hne : some g ≠ row) : IsS31 w0 W1 g f0 f1 := by
  obtain ⟨A1, c1, hb, hg, hr1⟩ := h
  exact ⟨A1, c1, blk_grown hb hw hne, hg, hr1⟩
theorem IsS31.fresh {w0 W : World} {g : Nat} {f0 : Int} {f1 : List Int} (h : IsS31 w0 W g f0 f1) : ∀ k, W.heap.size ≤ k → k ≠ g := by
  obtain ⟨A1, c1, hb, hg, hr1⟩ := h
  exact Kd.freshB hb
theorem IsS31.kept {w0 W : World} {g : Nat} {f0 : Int} {f1 : List Int} {W1 : World} {S : Nat → Prop} (h : IsS31 w0 W g f0 f1) (hk : Kept W W1 S) (hne : ¬ S g) : IsS31 w0 W1 g f0 f1 := by
  obtain ⟨A1, c1, hb, hg, hr1⟩ := h
  exact ⟨A1, c1, blk_kept hb hk hne, hg, hr1⟩
theorem IsS31.below {w0 W : World} {g : Nat} {f0 : Int} {f1 : List Int} {W1 : World} (h : IsS31 w0 W g f0 f1) (hw : Below W.heap.size W W1) : IsS31 w0 W1 g f0 f1 := h.grown (grown_of_below hw none) (by simp)
theorem IsS31.alloc {w0 W : World} {g : Nat} {f0 : Int} {f1 : List Int} (h : IsS31 w0 W g f0 f1) (o : Obj) : IsS31 w0 (W.alloc o) g f0 f1 := h.below (below_alloc (Below.refl _ _) o)
theorem IsS31.drewN {w0 W : World} {g : Nat} {f0 : Int} {f1 : List Int} (h : IsS31 w0 W g f0 f1) (m : Nat) : IsS31 w0 (W.drewN m) g f0 f1 := h
theorem IsS31.drew {w0 W : World} {g : Nat} {f0 : Int} {f1 : List Int} (h : IsS31 w0 W g f0 f1) : IsS31 w0 W.drew g f0 f1 := h
theorem IsS31.at_ {w0 W : World} {g : Nat} {f0 : Int} {f1 : List Int} {w' : World} {m : Nat} (hq : W.drewN m = w') (h : IsS31 w0 W g f0 f1) : IsS31 w0 w' g f0 f1 := by subst hq; exact IsS31.drewN h m
theorem IsS31.apart {w0 W : World} {g : Nat} {f0 : Int} {f1 : List Int} {α : Type} {d : Kd α} {e : Nat} {base : Nat} {ok : Nat → Prop} {v : Value} {xs : List α} (h : IsS31 w0 W g f0 f1) (ho : d.R e W base ok v xs) (ht : ∀ q, q ∈ e :: d.E → q ≠ 31) : d.R e W base (fun k => ok k ∧ k ≠ g) v xs := by
  obtain ⟨A1, c1, hb, hg, hr1⟩ := h
  exact Kd.R_types ho hb ht
theorem IsS31.own_ne {w0 W : World} {g : Nat} {f0 : Int} {f1 : List Int} {α : Type} {d : Kd α} {e : Nat} {base : Nat} {ok : Nat → Prop} {v : Value} {xs : List α} (h : IsS31 w0 W g f0 f1) (ho : d.R e W base ok v xs) (ht : e ≠ 31) : some g ≠ v.ownBlock := by
  obtain ⟨A1, c1, hb, hg, hr1⟩ := h
  exact Kd.R_ne ho hb ht
theorem IsS31.lt {w0 W : World} {g : Nat} {f0 : Int} {f1 : List Int} (h : IsS31 w0 W g f0 f1) : g < W.heap.size := by
  obtain ⟨A1, c1, hb, hg, hr1⟩ := h
  exact blk_lt hb
theorem IsS31.new (w0 W : World) (A1 : Option Addr) (c1 : Nat) (f0 : Int) (f1 : List Int) (hB : Below w0.heap.size w0 W) (hr1 : Kd.C (Kd.int .i64) w0 A1 f1.length f1) : IsS31 w0 (W.alloc (.cells #[.int .i64 f0, .slice A1 f1.length c1] 31)) W.heap.size f0 f1 := ⟨A1, c1, by simpa using heap_alloc_new W _, hB.size, hr1⟩
-- NOT PRINTED: function 138 (impl_State_capsAre)
-- NOT PRINTED: function 101 (impl_State_wants)
def impl_gives.f (a0 : Int) : Option (Bool) := if a0 = 1 then (some true) else (if a0 = 2 then (some true) else (if a0 = 5 then (some true) else (if a0 = 7 then (some true) else (if a0 = 9 then (some true) else (if a0 = 10 then (some true) else (if a0 = 11 then (some true) else (if a0 = 15 then (some true) else (if a0 = 16 then (some true) else (some false)))))))))
set_option maxHeartbeats 8000000 in
set_option maxRecDepth 100000 in
theorem impl_gives.calls (a0 : Int) (r : Bool) (w : World) (h : impl_gives.f a0 = some r) :
    Calls Try.prog 103 #[.int .i64 a0] w fun e w' => e = .returned (.bool r) ∧ Drawn0 w w' := by
  have H : (if a0 = 1 then (some true) else (if a0 = 2 then (some true) else (if a0 = 5 then (some true) else (if a0 = 7 then (some true) else (if a0 = 9 then (some true) else (if a0 = 10 then (some true) else (if a0 = 11 then (some true) else (if a0 = 15 then (some true) else (if a0 = 16 then (some true) else (some false)))))))))) = some r := h
  clear h
  by_cases c2 : a0 = 1
  · rw [if_pos c2] at H
    have c2b0 : (a0 == 1) = true := beq_iff_eq.mpr c2
    have c2b1 : (a0 != 1) = false := bne_eq_false_iff_eq.mpr c2
    clear c2
    obtain rfl := Option.some.inj H
    go_enter Try.func103, Try.ntmps103
    go_wp2
    go_ret
    exact ⟨by first | rfl | (simp; done) | (simp [*]; done), by repeat (first | exact Drawn0.refl _ | apply Drawn0.step)⟩
  · rw [if_neg c2] at H
    have c2b0 : (a0 == 1) = false := beq_eq_false_iff_ne.mpr c2
    have c2b1 : (a0 != 1) = true := bne_iff_ne.mpr c2
    by_cases c3 : a0 = 2
    · rw [if_pos c3] at H
      have c3b0 : (a0 == 2) = true := beq_iff_eq.mpr c3
      have c3b1 : (a0 != 2) = false := bne_eq_false_iff_eq.mpr c3
      clear c3
      obtain rfl := Option.some.inj H
      go_enter Try.func103, Try.ntmps103
      go_wp2
      go_ret
      exact ⟨by first | rfl | (simp; done) | (simp [*]; done), by repeat (first | exact Drawn0.refl _ | apply Drawn0.step)⟩
    · rw [if_neg c3] at H
      have c3b0 : (a0 == 2) = false := beq_eq_false_iff_ne.mpr c3
      have c3b1 : (a0 != 2) = true := bne_iff_ne.mpr c3
      by_cases c4 : a0 = 5
      · rw [if_pos c4] at H
        have c4b0 : (a0 == 5) = true := beq_iff_eq.mpr c4
        have c4b1 : (a0 != 5) = false := bne_eq_false_iff_eq.mpr c4
        clear c4
        obtain rfl := Option.some.inj H
        go_enter Try.func103, Try.ntmps103
        go_wp2
        go_ret
        exact ⟨by first | rfl | (simp; done) | (simp [*]; done), by repeat (first | exact Drawn0.refl _ | apply Drawn0.step)⟩
      · rw [if_neg c4] at H
        have c4b0 : (a0 == 5) = false := beq_eq_false_iff_ne.mpr c4
        have c4b1 : (a0 != 5) = true := bne_iff_ne.mpr c4
        by_cases c5 : a0 = 7
        · rw [if_pos c5] at H
          have c5b0 : (a0 == 7) = true := beq_iff_eq.mpr c5
          have c5b1 : (a0 != 7) = false := bne_eq_false_iff_eq.mpr c5
          clear c5
          obtain rfl := Option.some.inj H
          go_enter Try.func103, Try.ntmps103
          go_wp2
          go_ret
          exact ⟨by first | rfl | (simp; done) | (simp [*]; done), by repeat (first | exact Drawn0.refl _ | apply Drawn0.step)⟩
        · rw [if_neg c5] at H
          have c5b0 : (a0 == 7) = false := beq_eq_false_iff_ne.mpr c5
          have c5b1 : (a0 != 7) = true := bne_iff_ne.mpr c5
          by_cases c6 : a0 = 9
          · rw [if_pos c6] at H
            have c6b0 : (a0 == 9) = true := beq_iff_eq.mpr c6
            have c6b1 : (a0 != 9) = false := bne_eq_false_iff_eq.mpr c6
            clear c6
            obtain rfl := Option.some.inj H
            go_enter Try.func103, Try.ntmps103
            go_wp2
            go_ret
            exact ⟨by first | rfl | (simp; done) | (simp [*]; done), by repeat (first | exact Drawn0.refl _ | apply Drawn0.step)⟩
          · rw [if_neg c6] at H
            have c6b0 : (a0 == 9) = false := beq_eq_false_iff_ne.mpr c6
            have c6b1 : (a0 != 9) = true := bne_iff_ne.mpr c6
            by_cases c7 : a0 = 10
            · rw [if_pos c7] at H
              have c7b0 : (a0 == 10) = true := beq_iff_eq.mpr c7
              have c7b1 : (a0 != 10) = false := bne_eq_false_iff_eq.mpr c7
              clear c7
              obtain rfl := Option.some.inj H
              go_enter Try.func103, Try.ntmps103
              go_wp2
              go_ret
              exact ⟨by first | rfl | (simp; done) | (simp [*]; done), by repeat (first | exact Drawn0.refl _ | apply Drawn0.step)⟩
            · rw [if_neg c7] at H
              have c7b0 : (a0 == 10) = false := beq_eq_false_iff_ne.mpr c7
              have c7b1 : (a0 != 10) = true := bne_iff_ne.mpr c7
              by_cases c8 : a0 = 11
              · rw [if_pos c8] at H
                have c8b0 : (a0 == 11) = true := beq_iff_eq.mpr c8
                have c8b1 : (a0 != 11) = false := bne_eq_false_iff_eq.mpr c8
                clear c8
                obtain rfl := Option.some.inj H
                go_enter Try.func103, Try.ntmps103
                go_wp2
                go_ret
                exact ⟨by first | rfl | (simp; done) | (simp [*]; done), by repeat (first | exact Drawn0.refl _ | apply Drawn0.step)⟩
              · rw [if_neg c8] at H
                have c8b0 : (a0 == 11) = false := beq_eq_false_iff_ne.mpr c8
                have c8b1 : (a0 != 11) = true := bne_iff_ne.mpr c8
                by_cases c9 : a0 = 15
                · rw [if_pos c9] at H
                  have c9b0 : (a0 == 15) = true := beq_iff_eq.mpr c9
                  have c9b1 : (a0 != 15) = false := bne_eq_false_iff_eq.mpr c9
                  clear c9
                  obtain rfl := Option.some.inj H
                  go_enter Try.func103, Try.ntmps103
                  go_wp2
                  go_ret
                  exact ⟨by first | rfl | (simp; done) | (simp [*]; done), by repeat (first | exact Drawn0.refl _ | apply Drawn0.step)⟩
                · rw [if_neg c9] at H
                  have c9b0 : (a0 == 15) = false := beq_eq_false_iff_ne.mpr c9
                  have c9b1 : (a0 != 15) = true := bne_iff_ne.mpr c9
                  by_cases c10 : a0 = 16
                  · rw [if_pos c10] at H
                    have c10b0 : (a0 == 16) = true := beq_iff_eq.mpr c10
                    have c10b1 : (a0 != 16) = false := bne_eq_false_iff_eq.mpr c10
                    clear c10
                    obtain rfl := Option.some.inj H
                    go_enter Try.func103, Try.ntmps103
                    go_wp2
                    go_ret
                    exact ⟨by first | rfl | (simp; done) | (simp [*]; done), by repeat (first | exact Drawn0.refl _ | apply Drawn0.step)⟩
                  · rw [if_neg c10] at H
                    have c10b0 : (a0 == 16) = false := beq_eq_false_iff_ne.mpr c10
                    have c10b1 : (a0 != 16) = true := bne_iff_ne.mpr c10
                    obtain rfl := Option.some.inj H
                    go_enter Try.func103, Try.ntmps103
                    go_wp2
                    go_ret
                    exact ⟨by first | rfl | (simp; done) | (simp [*]; done), by repeat (first | exact Drawn0.refl _ | apply Drawn0.step)⟩
-- NOT PRINTED: function 61 (impl_State_stepped)
-- NOT PRINTED: function 112 (impl_flow_go1)
-- NOT PRINTED: function 67 (impl_states)
-- NOT PRINTED: function 24 (impl_Verify)
-- NOT PRINTED: function 4 (laws_FnExactVerify)
end Go.Proofs.Ytcbaokflimdjnaa.QFnExactVerify
end
section
namespace Go.Proofs.Ytcbaokflimdjnaa.Flow
open Go.RowKit Go.Proofs.YtcbaokflimdjnaaW.PrintWords Go.Proofs.YtcbaokflimdjnaaW.PrintMore Go.Proofs.Ytcbaokflimdjnaa.Law Go.Proofs.Ytcbaokflimdjnaa Go.Proofs.Ytcbaokflimdjnaa.QFnExactVerify Go.Proofs.Ytcbaokflimdjnaa.Num Go.Proofs.Ytcbaokflimdjnaa.PureJoin
set_option linter.unusedVariables false
set_option linter.unusedSimpArgs false
set_option autoImplicit false
theorem same_loop (l m : List Int) (acc acc2 : Int) (hl : l.length ≤ 1048576) (hm : l.length = m.length) (d : Nat) : ∀ (k j : Nat), j ≤ l.length → l.length - j = d → (∀ i, i < j → l.getD i 0 = m.getD i 0) → d < k → spec_l16Same.l0 k (j : Int) acc l acc2 m = some (decide (l = m)) := by
  induction d with
  | zero =>
    intro k j hj hd he hk
    obtain ⟨k, rfl⟩ : ∃ m, k = m + 1 := ⟨k - 1, by omega⟩
    simp only [spec_l16Same.l0]
    rw [if_neg (by omega)]
    have : l = m := by
      apply List.ext_getElem hm
      intro i h1 h2
      have := he i (by omega)
      simpa [List.getD_eq_getElem?_getD, List.getElem?_eq_getElem h1, List.getElem?_eq_getElem h2] using this
    rw [decide_eq_true this]
  | succ d ih =>
    intro k j hj hd he hk
    obtain ⟨k, rfl⟩ : ∃ m, k = m + 1 := ⟨k - 1, by omega⟩
    simp only [spec_l16Same.l0]
    rw [if_pos (by omega), if_pos (by omega), if_pos (by omega)]
    have e1 : rd l (j : Int) = l.getD j 0 := by rw [rd_el]; rfl
    have e2 : rd m (j : Int) = m.getD j 0 := by rw [rd_el]; rfl
    rw [e1, e2]
    by_cases hh : l.getD j 0 = m.getD j 0
    · rw [if_pos hh, wrap64_id (n := (j : Int) + 1) (by omega) (by omega)]
      refine ih k (j + 1) (by omega) (by omega) (fun i hi => ?_) (by omega)
      rcases Nat.lt_succ_iff_lt_or_eq.1 hi with h | h
      · exact he i h
      · rw [h]
        exact hh
    · rw [if_neg hh, decide_eq_false (fun e => hh (by rw [e]))]
theorem state_eq (a b : State) : decide (a = b) = (decide (a.acc = b.acc) && decide (a.regs = b.regs)) := by
  obtain ⟨x, l⟩ := a
  obtain ⟨y, m⟩ := b
  rw [← Bool.decide_and, decide_eq_decide]
  constructor
  · intro h; injection h with h1 h2; exact ⟨h1, h2⟩
  · rintro ⟨rfl, rfl⟩; rfl
theorem same_ok (a b : State) (hl : a.regs.length ≤ 1048576) {k : Nat} (hk : 1048580 ≤ k) : spec_l16Same.f k a.acc a.regs b.acc b.regs = some (decide (a = b)) := by
  obtain ⟨k, rfl⟩ : ∃ m, k = m + 1 := ⟨k - 1, by omega⟩
  rw [state_eq]
  unfold spec_l16Same.f
  by_cases h1 : a.acc = b.acc
  · rw [if_pos h1, decide_eq_true h1, Bool.true_and]
    simp only [spec_l16Same.j0]
    by_cases h2 : (a.regs.length : Int) = (b.regs.length : Int)
    · rw [if_neg (by simpa using h2)]
      exact same_loop _ _ _ _ hl (by omega) a.regs.length k 0 (by omega) (by omega) (fun i hi => by omega) (by omega)
    · rw [if_pos (by simpa using h2), decide_eq_false (fun e => h2 (by rw [e]))]
  · rw [if_neg h1, decide_eq_false h1]
    simp only [spec_l16Same.j0]
    rw [if_pos trivial]
    rfl
theorem cSame (a b : State) (cs ds : List Value) (w : World) (hk : kStateI.K w a cs) (hk2 : kStateI.K w b ds) (hl : a.regs.length ≤ 1048576) :
    Calls Try.prog 143 #[.agg ⟨cs⟩, .agg ⟨ds⟩] w fun e w' => e = .returned (.bool (decide (a = b))) ∧ Below w.heap.size w w' := by
  obtain ⟨A, c, rfl, h1, h2⟩ := kStateI_open hk
  obtain ⟨B, d, rfl, h3, h4⟩ := kStateI_open hk2
  exact spec_l16Same.calls 1048580 a.acc A c a.regs b.acc B d b.regs _ w h2 h1 h4 h3 (same_ok a b hl (Nat.le_refl _))
theorem equal_loop (l m : List Int) (hl : l.length ≤ 1048576) (hm : l.length = m.length) (d : Nat) : ∀ (k j : Nat), j ≤ l.length → l.length - j = d → (∀ i, i < j → l.getD i 0 = m.getD i 0) → d < k → slices_Equal_int_int.l0 k l m (l.length : Int) (j : Int) = some (decide (l = m)) := by
  induction d with
  | zero =>
    intro k j hj hd he hk
    obtain ⟨k, rfl⟩ : ∃ m, k = m + 1 := ⟨k - 1, by omega⟩
    simp only [slices_Equal_int_int.l0]
    rw [if_neg (by omega)]
    have : l = m := by
      apply List.ext_getElem hm
      intro i h1 h2
      have := he i (by omega)
      simpa [List.getD_eq_getElem?_getD, List.getElem?_eq_getElem h1, List.getElem?_eq_getElem h2] using this
    rw [decide_eq_true this]
  | succ d ih =>
    intro k j hj hd he hk
    obtain ⟨k, rfl⟩ : ∃ m, k = m + 1 := ⟨k - 1, by omega⟩
    simp only [slices_Equal_int_int.l0]
    rw [if_pos (by omega), if_pos (by omega), if_pos (by omega), if_pos (by omega)]
    have e1 : rd l (j : Int) = l.getD j 0 := by rw [rd_el]; rfl
    have e2 : rd m (j : Int) = m.getD j 0 := by rw [rd_el]; rfl
    rw [e1, e2]
    by_cases hh : l.getD j 0 = m.getD j 0
    · rw [if_pos hh, wrap64_id (n := (j : Int) + 1) (by omega) (by omega)]
      refine ih k (j + 1) (by omega) (by omega) (fun i hi => ?_) (by omega)
      rcases Nat.lt_succ_iff_lt_or_eq.1 hi with h | h
      · exact he i h
      · rw [h]
        exact hh
    · rw [if_neg hh, decide_eq_false (fun e => hh (by rw [e]))]
theorem equal_ok (l m : List Int) (hl : l.length ≤ 1048576) {k : Nat} (hk : 1048577 ≤ k) : slices_Equal_int_int.f k l m = some (decide (l = m)) := by
  unfold slices_Equal_int_int.f
  by_cases hm : (l.length : Int) = (m.length : Int)
  · rw [if_pos hm]
    exact equal_loop l m hl (by omega) l.length k 0 (by omega) (by omega) (fun i hi => by omega) (by omega)
  · rw [if_neg hm, decide_eq_false (fun e => hm (by rw [e]))]
theorem gives_ok (o : Int) : impl_gives.f o = some (givesB o) := by
  unfold impl_gives.f givesB
  repeat' split
  all_goals simp_all
set_option maxHeartbeats 8000000 in
set_option maxRecDepth 100000 in
theorem cCopy (s : State) (cs : List Value) (w : World) (hk : kStateI.K w s cs) (hl : s.regs.length ≤ 1048576) :
    Calls Try.prog 102 #[.agg ⟨cs⟩] w fun e w' => ∃ ds, e = .returned (.agg ⟨ds⟩) ∧ kStateI.M w' w.heap.size (fun _ => True) s ds ∧ Below w.heap.size w w' := by
  obtain ⟨A, c, rfl, h1, h2⟩ := kStateI_open hk
  have hu := Try.underlying31; have hu1 := Try.underlying26; have hu2 := Try.underlying3
  have HC := Aside0.mk h2; have HK := Aside0.mk h1
  clear hk h1 h2
  have M0 := Aside0.mk (((Mem.start w).allocAt rfl #[.int .i64 s.acc, .slice A s.regs.length c] 31).allocAt (g := w.heap.size + 1) (by simp) #[.int .i64 0, .slice none 0 0] 31)
  have z0 := M0.out.box (.tail _ (.head _)); have z1 := M0.out.box (.head _)
  go_enter Try.func102, Try.ntmps102
  have HSZ := Aside0.mk (Below.refl ((w.alloc (.cells #[.int .i64 s.acc, .slice A s.regs.length c] 31)).alloc (.cells #[.int .i64 0, .slice none 0 0] 31)).heap.size ((w.alloc (.cells #[.int .i64 s.acc, .slice A s.regs.length c] 31)).alloc (.cells #[.int .i64 0, .slice none 0 0] 31)))
  go_wp2_with (((with_reducible refine gate_builtin (b := .append) (xs := #[.const (.slice none 0 0), .tmp 4]) rfl ?_); at_builtin; refine Aside0.out ?_))
  refine ⟨?_⟩
  clear z0 z1
  generalize hW : ((w.alloc (.cells #[.int .i64 s.acc, .slice A s.regs.length c] 31)).alloc (.cells #[.int .i64 0, .slice none 0 0] 31)) = W at M0 HSZ ⊢
  clear hW
  (refine Kd.R_append_row (Value.int .i64) (0 : Int) (h1 := fun _ => rfl) (w0 := W) W.heap.size rfl (.const (.slice none 0 0)) (.tmp 4) 26 3 (.int .i64 0) 8 rfl Try.underlying26 info3 rfl (by decide) (.slice none 0 0) [] s.regs ?hA ?hM ?hC (fun _ => True) rfl ?aX (fun _ _ => trivial) (Kd.R_nil _ _ _ _ _) ?aR (Below.refl _ _) (Nat.le_refl _) ?aL ?_; (case aX => first | rfl | (go_simp; done) | (go_simp; rfl)); (case aR => exact Kd.C_below HC.out M0.out.below); (case aL => simp; omega); intro v9 w9 ho hb9 hg hat; have HO9 := Aside0.mk ho; have HB9 := Aside0.mk hb9; clear ho hb9 hg hat)
  obtain ⟨v9A, v9c, rfl⟩ := Kd.R_slice HO9.out
  have M1 := Aside0.mk (M0.out.step HB9.out)
  have z0 := M1.out.box (.tail _ (.head _)); have z1 := M1.out.box (.head _)
  have f0 := M1.out.free (.tail _ (.head _)); have f1 := M1.out.free (.head _)
  have HWS := Aside0.mk (show w.heap.size + 2 ≤ W.heap.size from (M0.out.fits _ (.head _)).2)
  have M2 := Aside0.mk (M0.out.pushR HB9.out HO9.out)
  have M3 := Aside0.mk (Mem.set (A := [_, _]) M2.out 1 (.slice v9A s.regs.length v9c) rfl)
  have M4 := Aside0.mk (Mem.set (A := [_]) (Mem.set (A := [_]) M3.out 0 (.int .i64 s.acc) rfl) 1 (.slice v9A s.regs.length v9c) rfl)
  clear M1 M2 M3
  go_wp2
  refine bodyPost_ret (results_cell_row rfl _ _ (w.heap.size + 1) 31 #[.int .i64 s.acc, .slice v9A s.regs.length v9c] (0, 0) _ rfl (M4.out.blk (.tail _ (.head _))) hu rfl (by kernel_rfl)) rfl ?_
  exact ⟨_, rfl, kStateI_mkM _ _ _ s (M4.out.rowT (.head _)), M4.out.below⟩
end Go.Proofs.Ytcbaokflimdjnaa.Flow
end
