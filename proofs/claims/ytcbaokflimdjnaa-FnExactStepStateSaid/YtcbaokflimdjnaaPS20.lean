/- Part 20 of the proof: general lemmas, contracts of functions, walks. No condition of its own. -/
import Derived.Deep.RegionWith
import Derived.Deep.RegionHeld3
import Derived.Deep.DeepCutAuto
import Derived.IntWalk
import Derived.Test.YtcbaokflimdjnaaPS19
import Derived.Test.YtcbaokflimdjnaaPS10
import Derived.Test.YtcbaokflimdjnaaPS18
import Derived.Test.YtcbaokflimdjnaaPS11
import Derived.Test.YtcbaokflimdjnaaPS3
section
namespace Go.Proofs.Ytcbaokflimdjnaa.Flow
open Go.RowKit Go.Proofs.YtcbaokflimdjnaaW.PrintWords Go.Proofs.YtcbaokflimdjnaaW.PrintLast Go.Proofs.Ytcbaokflimdjnaa.Steps Go.Proofs.YtcbaokflimdjnaaW.PrintMore Go.Proofs.Ytcbaokflimdjnaa.Law Go.Proofs.Ytcbaokflimdjnaa Go.Proofs.Ytcbaokflimdjnaa.QFnExactVerify Go.Proofs.Ytcbaokflimdjnaa.Num
set_option linter.unusedVariables false
set_option linter.unusedSimpArgs false
set_option autoImplicit false
theorem spec_reg (s : State) (r v : Int) (hl : s.regs.length ≤ 1048576) : spec_l16Reg.f s.acc s.regs r v = some (regIs s r v) := by
  unfold spec_l16Reg.f regIs
  rw [show wrap64 ((s.regs.length : Int) - 1) = (s.regs.length : Int) - 1 from wrap64_id (by omega) (by omega), Img.spec_in]
  show (if Img.inB r 0 ((s.regs.length : Int) - 1) = true then _ else _) = _
  unfold Img.inB
  by_cases h : 0 ≤ r ∧ r ≤ (s.regs.length : Int) - 1
  · rw [decide_eq_true h, if_pos rfl, if_pos h.1, if_pos (by omega)]
    rw [show rd s.regs r = el 0 s.regs r.toNat from rfl]
    rfl
  · rw [decide_eq_false h, if_neg (by decide)]
    rfl
theorem spec_room (s : State) (r : Int) (hl : s.regs.length ≤ 1048576) : spec_l16Room.f s.acc s.regs r = some (room s r) := by
  unfold spec_l16Room.f room
  rw [show wrap64 ((s.regs.length : Int) - 1) = (s.regs.length : Int) - 1 from wrap64_id (by omega) (by omega), Img.spec_in]
  rfl
theorem func_at5 {w : World} {A : Option Addr} {l : List Func} (h : kFuncI.C w A l.length l) (j : Nat) (hj : j < l.length) : ∃ a A2 c2 A3 c3 A4 c4, A = some a ∧
    w.cell? (a.add (j * 5)) = some (.int .i64 (el zFunc l j).params) ∧ w.cell? ⟨(a.add (j * 5)).block, (a.add (j * 5)).off + 1, none⟩ = some (.int .i64 (el zFunc l j).regs) ∧ w.cell? ⟨(a.add (j * 5)).block, (a.add (j * 5)).off + 2, none⟩ = some (.slice A2 (el zFunc l j).caps.length c2) ∧ w.cell? ⟨(a.add (j * 5)).block, (a.add (j * 5)).off + 3, none⟩ = some (.slice A3 (el zFunc l j).code.length c3) ∧ w.cell? ⟨(a.add (j * 5)).block, (a.add (j * 5)).off + 4, none⟩ = some (.slice A4 (el zFunc l j).handlers.length c4) ∧
    ((el zFunc l j).caps.length ≤ c2 ∧ kCap.C w A2 (el zFunc l j).caps.length (el zFunc l j).caps) ∧ ((el zFunc l j).code.length ≤ c3 ∧ kIns.C w A3 (el zFunc l j).code.length (el zFunc l j).code) ∧ ((el zFunc l j).handlers.length ≤ c4 ∧ kHandler.C w A4 (el zFunc l j).handlers.length (el zFunc l j).handlers) := by
  obtain ⟨a, A2, c2, A3, c3, A4, c4, e, hK, x0, x1, x2, x3, x4⟩ := FuncI_at h j hj
  obtain ⟨B2, d2, B3, d3, B4, d4, he, l2, g2, l3, g3, l4, g4⟩ := kFuncI_open hK
  cases he
  exact ⟨a, A2, c2, A3, c3, A4, c4, e, x0, x1, x2, x3, x4, ⟨l2, g2⟩, ⟨l3, g3⟩, ⟨l4, g4⟩⟩
theorem args_no (s : State) (a : Int) {k n : Nat} (h : regIs s (a + (k : Int)) 1 = false) (hk : k < n) : argsTo s a n = false := by
  induction n with
  | zero => omega
  | succ n ih =>
    unfold argsTo
    by_cases e : k = n
    · subst e; rw [h]; simp
    · rw [ih (by omega)]; rfl
theorem caps_no (f : Func) (s : State) (cs : List Cap) {k n : Nat} (h : capB f s (el zCap cs k) = false) (hk : k < n) : capsTo f s cs n = false := by
  induction n with
  | zero => omega
  | succ n ih =>
    unfold capsTo
    by_cases e : k = n
    · subst e; rw [h]; simp
    · rw [ih (by omega)]; rfl
def mayS.T33 : Bool × List (List Nat × List Nat) := (true, [([], []), ([], []), ([0, 1], [0, 1]), ([2], [2]), ([3], [3]), ([4], [4]), ([5], [5]), ([5], [5]), ([5], [5]), ([7, 8, 5], [5, 7, 8]), ([9, 5], [5, 9]), ([10, 5], [5, 10]), ([6, 11, 5, 5], [5, 6, 11]), ([12, 5], [5, 12]), ([5, 13], [5, 13]), ([14, 12], [14]), ([15], [15]), ([15], [15]), ([16, 17, 15], [15, 16, 17]), ([18, 15], [15, 18]), ([19, 15], [15, 19]), ([20, 15], [15, 20]), ([21, 15, 15], [15, 21]), ([22], [22]), ([22], [22]), ([23, 24, 22], [22, 23, 24]), ([25, 22], [22, 25]), ([26, 22], [22, 26]), ([22], [22]), ([28, 22], [22, 28]), ([29, 22], [22, 29]), ([27, 30, 22], [22, 27, 30]), ([22, 31, 15], [15, 22, 31]), ([15, 32], [15, 32])])
def mayS.B33 : List Nat := [0, 0, 3, 7, 15, 31, 63, 63, 63, 447, 959, 1983, 4095, 8191, 16383, 32767, 65535, 65535, 262143, 524287, 1048575, 2097151, 4194303, 8388607, 8388607, 33554431, 67108863, 134217727, 8388607, 276824063, 813694975, 2147483647, 4294967295, 8589934591]
theorem mayS.tab33 : rtab .any (opsOf Try.f54 33) = mayS.T33 := by kernel_rfl
theorem mayS.bits33 : waitsOk mayS.T33.2 mayS.B33 = true := by kernel_rfl
/-- What is known of an instruction of kind op, and of the memory, when spec.l16May has laid its arguments. -/
structure MH (x : Image) (j : Nat) (s : State) (op ia ib : Int) (c0 : Nat) (A1 : Option Addr) (c1 : Nat) (AR : Option Addr) (cR : Nat) (w : World) (f : Func) (fa : Addr) (A2 : Option Addr) (c2 : Nat) (A3 : Option Addr) (c3 : Nat) (A4 : Option Addr) (c4 : Nat) : Prop where
  G0 : Aside0 (kFuncI.C w (some fa) x.funcs.length x.funcs)
  HR : Aside0 ((Kd.int .i64).C w AR s.regs.length s.regs)
  HJ : Aside0 (j < x.funcs.length)
  HFE : Aside0 (f = el zFunc x.funcs j)
  HC : Aside0 (f.caps.length ≤ c2 ∧ kCap.C w A2 f.caps.length f.caps)
  HL0 : Aside0 (x.funcs.length ≤ c0)
  HHC : Aside0 (s.regs.length ≤ cR)
  j1 : (0 : Int) ≤ (j : Int)
  j2 : (j : Int) < (x.funcs.length : Int)
  hl : s.regs.length ≤ 1048576
  hx : x.funcs.length ≤ 1048576
  ha : 0 ≤ ia ∧ ia ≤ 300
  hb : 0 ≤ ib ∧ ib ≤ 300
  hf : f.caps.length ≤ 1048576
  M0 : Aside0 (Mem w (World.alloc (World.alloc (World.alloc (w.alloc (.cells #[.slice (some fa) x.funcs.length c0, .slice A1 x.consts.length c1] 37)) (.cells #[.int .i64 op, .int .i64 ia, .int .i64 ib] 76)) (.cells #[.int .i64 s.acc, .slice AR s.regs.length cR] 31)) (.cells #[.int .i64 f.params, .int .i64 f.regs, .slice A2 f.caps.length c2, .slice A3 f.code.length c3, .slice A4 f.handlers.length c4] 73)) [Hold.box (w.heap.size + 3) #[.int .i64 f.params, .int .i64 f.regs, .slice A2 f.caps.length c2, .slice A3 f.code.length c3, .slice A4 f.handlers.length c4] 73, Hold.box (w.heap.size + 2) #[.int .i64 s.acc, .slice AR s.regs.length cR] 31, Hold.box (w.heap.size + 1) #[.int .i64 op, .int .i64 ia, .int .i64 ib] 76, Hold.box w.heap.size #[.slice (some fa) x.funcs.length c0, .slice A1 x.consts.length c1] 37])
  p0 : World.cell? (World.alloc (World.alloc (w.alloc (.cells #[.slice (some fa) x.funcs.length c0, .slice A1 x.consts.length c1] 37)) (.cells #[.int .i64 op, .int .i64 ia, .int .i64 ib] 76)) (.cells #[.int .i64 s.acc, .slice AR s.regs.length cR] 31)) (fa.add (j * 5)) = some (.int .i64 f.params)
  p1 : World.cell? (World.alloc (World.alloc (w.alloc (.cells #[.slice (some fa) x.funcs.length c0, .slice A1 x.consts.length c1] 37)) (.cells #[.int .i64 op, .int .i64 ia, .int .i64 ib] 76)) (.cells #[.int .i64 s.acc, .slice AR s.regs.length cR] 31)) ⟨(fa.add (j * 5)).block, (fa.add (j * 5)).off + 1, none⟩ = some (.int .i64 f.regs)
  p2 : World.cell? (World.alloc (World.alloc (w.alloc (.cells #[.slice (some fa) x.funcs.length c0, .slice A1 x.consts.length c1] 37)) (.cells #[.int .i64 op, .int .i64 ia, .int .i64 ib] 76)) (.cells #[.int .i64 s.acc, .slice AR s.regs.length cR] 31)) ⟨(fa.add (j * 5)).block, (fa.add (j * 5)).off + 2, none⟩ = some (.slice A2 f.caps.length c2)
  p3 : World.cell? (World.alloc (World.alloc (w.alloc (.cells #[.slice (some fa) x.funcs.length c0, .slice A1 x.consts.length c1] 37)) (.cells #[.int .i64 op, .int .i64 ia, .int .i64 ib] 76)) (.cells #[.int .i64 s.acc, .slice AR s.regs.length cR] 31)) ⟨(fa.add (j * 5)).block, (fa.add (j * 5)).off + 3, none⟩ = some (.slice A3 f.code.length c3)
  p4 : World.cell? (World.alloc (World.alloc (w.alloc (.cells #[.slice (some fa) x.funcs.length c0, .slice A1 x.consts.length c1] 37)) (.cells #[.int .i64 op, .int .i64 ia, .int .i64 ib] 76)) (.cells #[.int .i64 s.acc, .slice AR s.regs.length cR] 31)) ⟨(fa.add (j * 5)).block, (fa.add (j * 5)).off + 4, none⟩ = some (.slice A4 f.handlers.length c4)
  z0 : ∀ o, World.cell? (World.alloc (World.alloc (w.alloc (.cells #[.slice (some fa) x.funcs.length c0, .slice A1 x.consts.length c1] 37)) (.cells #[.int .i64 op, .int .i64 ia, .int .i64 ib] 76)) (.cells #[.int .i64 s.acc, .slice AR s.regs.length cR] 31)) ⟨w.heap.size, o, none⟩ = (#[.slice (some fa) x.funcs.length c0, .slice A1 x.consts.length c1] : Array Value)[o]?
  z1 : ∀ o, World.cell? (World.alloc (World.alloc (w.alloc (.cells #[.slice (some fa) x.funcs.length c0, .slice A1 x.consts.length c1] 37)) (.cells #[.int .i64 op, .int .i64 ia, .int .i64 ib] 76)) (.cells #[.int .i64 s.acc, .slice AR s.regs.length cR] 31)) ⟨w.heap.size + 1, o, none⟩ = (#[.int .i64 op, .int .i64 ia, .int .i64 ib] : Array Value)[o]?
  z2 : ∀ o, World.cell? (World.alloc (World.alloc (w.alloc (.cells #[.slice (some fa) x.funcs.length c0, .slice A1 x.consts.length c1] 37)) (.cells #[.int .i64 op, .int .i64 ia, .int .i64 ib] 76)) (.cells #[.int .i64 s.acc, .slice AR s.regs.length cR] 31)) ⟨w.heap.size + 2, o, none⟩ = (#[.int .i64 s.acc, .slice AR s.regs.length cR] : Array Value)[o]?
  z3 : ∀ o, World.cell? (World.alloc (World.alloc (World.alloc (w.alloc (.cells #[.slice (some fa) x.funcs.length c0, .slice A1 x.consts.length c1] 37)) (.cells #[.int .i64 op, .int .i64 ia, .int .i64 ib] 76)) (.cells #[.int .i64 s.acc, .slice AR s.regs.length cR] 31)) (.cells #[.int .i64 f.params, .int .i64 f.regs, .slice A2 f.caps.length c2, .slice A3 f.code.length c3, .slice A4 f.handlers.length c4] 73)) ⟨w.heap.size + 3, o, none⟩ = (#[.int .i64 f.params, .int .i64 f.regs, .slice A2 f.caps.length c2, .slice A3 f.code.length c3, .slice A4 f.handlers.length c4] : Array Value)[o]?
def MayAt (op : Int) : Prop := ∀ (x : Image) (j : Nat) (s : State) (ia ib : Int) (A0 : Option Addr) (c0 : Nat) (A1 : Option Addr) (c1 : Nat) (AR : Option Addr) (cR : Nat) (w : World) (l0 : x.funcs.length ≤ c0) (g0 : kFuncI.C w A0 x.funcs.length x.funcs) (hj : j < x.funcs.length) (hr : (Kd.int .i64).C w AR s.regs.length s.regs) (hc : s.regs.length ≤ cR) (hl : s.regs.length ≤ 1048576) (hx : x.funcs.length ≤ 1048576) (ha : 0 ≤ ia ∧ ia ≤ 300) (hb : 0 ≤ ib ∧ ib ≤ 300) (hf : (el zFunc x.funcs j).caps.length ≤ 1048576),
    Calls Try.prog 54 #[.agg #[.slice A0 x.funcs.length c0, .slice A1 x.consts.length c1], .int .i64 j, .agg #[.int .i64 op, .int .i64 ia, .int .i64 ib], .agg #[.int .i64 s.acc, .slice AR s.regs.length cR]] w fun e w' => e = .returned (.bool (mayB x (el zFunc x.funcs j) ⟨op, ia, ib⟩ s)) ∧ Below w.heap.size w w'
theorem may_at (op : Int) (h : ∀ x j s ia ib c0 A1 c1 AR cR w f fa A2 c2 A3 c3 A4 c4, MH x j s op ia ib c0 A1 c1 AR cR w f fa A2 c2 A3 c3 A4 c4 → Calls Try.prog 54 #[.agg #[.slice (some fa) x.funcs.length c0, .slice A1 x.consts.length c1], .int .i64 j, .agg #[.int .i64 op, .int .i64 ia, .int .i64 ib], .agg #[.int .i64 s.acc, .slice AR s.regs.length cR]] w fun e w' => e = .returned (.bool (mayB x f ⟨op, ia, ib⟩ s)) ∧ Below w.heap.size w w') : MayAt op := by
  intro x j s ia ib A0 c0 A1 c1 AR cR w l0 g0 hj hr hc hl hx ha hb hf
  have G0 := Aside0.mk g0; have HR := Aside0.mk hr; have HJ := Aside0.mk hj
  obtain ⟨fa, A2, c2, A3, c3, A4, c4, hfa, x0, x1, x2, x3, x4, hcap, hcode, hhan⟩ := func_at5 g0 j hj
  obtain ⟨f, hfe⟩ : ∃ f, f = el zFunc x.funcs j := ⟨_, rfl⟩
  rw [← hfe] at x0 x1 x2 x3 x4 hcap hcode hhan hf ⊢
  have HFE := Aside0.mk hfe; have HC := Aside0.mk hcap; have HL0 := Aside0.mk l0; have HHC := Aside0.mk hc
  have j1 : (0 : Int) ≤ (j : Int) := by omega
  have j2 : (j : Int) < (x.funcs.length : Int) := by omega
  cases hfa
  have M00 := Aside0.mk ((((Mem.start w).allocAt rfl #[.slice (some fa) x.funcs.length c0, .slice A1 x.consts.length c1] 37).allocAt (g := w.heap.size + 1) (by simp) #[.int .i64 op, .int .i64 ia, .int .i64 ib] 76).allocAt (g := w.heap.size + 2) (by simp) #[.int .i64 s.acc, .slice AR s.regs.length cR] 31)
  have M0 := Aside0.mk (M00.out.allocAt (g := w.heap.size + 3) (by simp) #[.int .i64 f.params, .int .i64 f.regs, .slice A2 f.caps.length c2, .slice A3 f.code.length c3, .slice A4 f.handlers.length c4] 73)
  exact h x j s ia ib c0 A1 c1 AR cR w f fa A2 c2 A3 c3 A4 c4 ⟨G0, HR, HJ, HFE, HC, HL0, HHC, j1, j2, hl, hx, ha, hb, hf, M0, pw_cell_below M00.out.below x0, pw_cell_below M00.out.below x1, pw_cell_below M00.out.below x2, pw_cell_below M00.out.below x3, pw_cell_below M00.out.below x4,
    M00.out.box (.tail _ (.tail _ (.head _))), M00.out.box (.tail _ (.head _)), M00.out.box (.head _), M0.out.box (.head _)⟩
set_option maxHeartbeats 8000000 in
set_option maxRecDepth 100000 in
theorem may1 : MayAt 1 := by
  refine may_at 1 ?_
  rintro x j s ia ib c0 A1 c1 AR cR w f fa A2 c2 A3 c3 A4 c4 ⟨G0, HR, HJ, HFE, HC, HL0, HHC, j1, j2, hl, hx, ha, hb, hf, M0, p0, p1, p2, p3, p4, z0, z1, z2, z3⟩
  have hu := Try.underlying37; have hu1 := Try.underlying34; have hu2 := Try.underlying73; have hu3 := Try.underlying76; have hu4 := Try.underlying31; have hu5 := Try.underlying69; have hu6 := Try.underlying105
  go_enter Try.func54, Try.ntmps54
  go_wp2
  go_ret
  exact ⟨rfl, M0.out.below⟩
set_option maxHeartbeats 8000000 in
set_option maxRecDepth 100000 in
theorem may7 : MayAt 7 := by
  refine may_at 7 ?_
  rintro x j s ia ib c0 A1 c1 AR cR w f fa A2 c2 A3 c3 A4 c4 ⟨G0, HR, HJ, HFE, HC, HL0, HHC, j1, j2, hl, hx, ha, hb, hf, M0, p0, p1, p2, p3, p4, z0, z1, z2, z3⟩
  have hu := Try.underlying37; have hu1 := Try.underlying34; have hu2 := Try.underlying73; have hu3 := Try.underlying76; have hu4 := Try.underlying31; have hu5 := Try.underlying69; have hu6 := Try.underlying105
  go_enter Try.func54, Try.ntmps54
  go_wp2
  go_ret
  exact ⟨rfl, M0.out.below⟩
set_option maxHeartbeats 8000000 in
set_option maxRecDepth 100000 in
theorem may12 : MayAt 12 := by
  refine may_at 12 ?_
  rintro x j s ia ib c0 A1 c1 AR cR w f fa A2 c2 A3 c3 A4 c4 ⟨G0, HR, HJ, HFE, HC, HL0, HHC, j1, j2, hl, hx, ha, hb, hf, M0, p0, p1, p2, p3, p4, z0, z1, z2, z3⟩
  have hu := Try.underlying37; have hu1 := Try.underlying34; have hu2 := Try.underlying73; have hu3 := Try.underlying76; have hu4 := Try.underlying31; have hu5 := Try.underlying69; have hu6 := Try.underlying105
  go_enter Try.func54, Try.ntmps54
  go_wp2
  go_ret
  exact ⟨rfl, M0.out.below⟩
set_option maxHeartbeats 8000000 in
set_option maxRecDepth 100000 in
theorem may8 : MayAt 8 := by
  refine may_at 8 ?_
  rintro x j s ia ib c0 A1 c1 AR cR w f fa A2 c2 A3 c3 A4 c4 ⟨G0, HR, HJ, HFE, HC, HL0, HHC, j1, j2, hl, hx, ha, hb, hf, M0, p0, p1, p2, p3, p4, z0, z1, z2, z3⟩
  have hu := Try.underlying37; have hu1 := Try.underlying34; have hu2 := Try.underlying73; have hu3 := Try.underlying76; have hu4 := Try.underlying31; have hu5 := Try.underlying69; have hu6 := Try.underlying105
  go_enter Try.func54, Try.ntmps54
  rcases Bool.eq_false_or_eq_true (decide (ia < (f.caps.length : Int))) with hd | hd
  · go_wp2
    go_ret
    exact ⟨by unfold mayB; simp [hd], M0.out.below⟩
  · go_wp2
    go_ret
    exact ⟨by unfold mayB; simp [hd], M0.out.below⟩
set_option maxHeartbeats 8000000 in
set_option maxRecDepth 100000 in
theorem may13 : MayAt 13 := by
  refine may_at 13 ?_
  rintro x j s ia ib c0 A1 c1 AR cR w f fa A2 c2 A3 c3 A4 c4 ⟨G0, HR, HJ, HFE, HC, HL0, HHC, j1, j2, hl, hx, ha, hb, hf, M0, p0, p1, p2, p3, p4, z0, z1, z2, z3⟩
  have hu := Try.underlying37; have hu1 := Try.underlying34; have hu2 := Try.underlying73; have hu3 := Try.underlying76; have hu4 := Try.underlying31; have hu5 := Try.underlying69; have hu6 := Try.underlying105
  go_enter Try.func54, Try.ntmps54
  rcases Bool.eq_false_or_eq_true (decide (ia < (f.code.length : Int))) with hd | hd
  · go_wp2
    go_ret
    exact ⟨by unfold mayB; simp [hd], M0.out.below⟩
  · go_wp2
    go_ret
    exact ⟨by unfold mayB; simp [hd], M0.out.below⟩
set_option maxHeartbeats 8000000 in
set_option maxRecDepth 100000 in
theorem may14 : MayAt 14 := by
  refine may_at 14 ?_
  rintro x j s ia ib c0 A1 c1 AR cR w f fa A2 c2 A3 c3 A4 c4 ⟨G0, HR, HJ, HFE, HC, HL0, HHC, j1, j2, hl, hx, ha, hb, hf, M0, p0, p1, p2, p3, p4, z0, z1, z2, z3⟩
  have hu := Try.underlying37; have hu1 := Try.underlying34; have hu2 := Try.underlying73; have hu3 := Try.underlying76; have hu4 := Try.underlying31; have hu5 := Try.underlying69; have hu6 := Try.underlying105
  go_enter Try.func54, Try.ntmps54
  rcases Bool.eq_false_or_eq_true (decide (ia < (f.code.length : Int))) with hd | hd
  · go_wp2
    go_ret
    exact ⟨by unfold mayB; simp [hd], M0.out.below⟩
  · go_wp2
    go_ret
    exact ⟨by unfold mayB; simp [hd], M0.out.below⟩
set_option maxHeartbeats 8000000 in
set_option maxRecDepth 100000 in
theorem may10 : MayAt 10 := by
  refine may_at 10 ?_
  rintro x j s ia ib c0 A1 c1 AR cR w f fa A2 c2 A3 c3 A4 c4 ⟨G0, HR, HJ, HFE, HC, HL0, HHC, j1, j2, hl, hx, ha, hb, hf, M0, p0, p1, p2, p3, p4, z0, z1, z2, z3⟩
  have hu := Try.underlying37; have hu1 := Try.underlying34; have hu2 := Try.underlying73; have hu3 := Try.underlying76; have hu4 := Try.underlying31; have hu5 := Try.underlying69; have hu6 := Try.underlying105
  go_enter Try.func54, Try.ntmps54
  go_wp2
  go_ret
  exact ⟨rfl, M0.out.below⟩
set_option maxHeartbeats 8000000 in
set_option maxRecDepth 100000 in
theorem may11 : MayAt 11 := by
  refine may_at 11 ?_
  rintro x j s ia ib c0 A1 c1 AR cR w f fa A2 c2 A3 c3 A4 c4 ⟨G0, HR, HJ, HFE, HC, HL0, HHC, j1, j2, hl, hx, ha, hb, hf, M0, p0, p1, p2, p3, p4, z0, z1, z2, z3⟩
  have hu := Try.underlying37; have hu1 := Try.underlying34; have hu2 := Try.underlying73; have hu3 := Try.underlying76; have hu4 := Try.underlying31; have hu5 := Try.underlying69; have hu6 := Try.underlying105
  go_enter Try.func54, Try.ntmps54
  go_wp2
  go_ret
  exact ⟨rfl, M0.out.below⟩
set_option maxHeartbeats 8000000 in
set_option maxRecDepth 100000 in
theorem may17 : MayAt 17 := by
  refine may_at 17 ?_
  rintro x j s ia ib c0 A1 c1 AR cR w f fa A2 c2 A3 c3 A4 c4 ⟨G0, HR, HJ, HFE, HC, HL0, HHC, j1, j2, hl, hx, ha, hb, hf, M0, p0, p1, p2, p3, p4, z0, z1, z2, z3⟩
  have hu := Try.underlying37; have hu1 := Try.underlying34; have hu2 := Try.underlying73; have hu3 := Try.underlying76; have hu4 := Try.underlying31; have hu5 := Try.underlying69; have hu6 := Try.underlying105
  go_enter Try.func54, Try.ntmps54
  go_wp2
  go_ret
  exact ⟨rfl, M0.out.below⟩
set_option maxHeartbeats 8000000 in
set_option maxRecDepth 100000 in
theorem may18 : MayAt 18 := by
  refine may_at 18 ?_
  rintro x j s ia ib c0 A1 c1 AR cR w f fa A2 c2 A3 c3 A4 c4 ⟨G0, HR, HJ, HFE, HC, HL0, HHC, j1, j2, hl, hx, ha, hb, hf, M0, p0, p1, p2, p3, p4, z0, z1, z2, z3⟩
  have hu := Try.underlying37; have hu1 := Try.underlying34; have hu2 := Try.underlying73; have hu3 := Try.underlying76; have hu4 := Try.underlying31; have hu5 := Try.underlying69; have hu6 := Try.underlying105
  go_enter Try.func54, Try.ntmps54
  go_wp2
  go_ret
  exact ⟨rfl, M0.out.below⟩
set_option maxHeartbeats 8000000 in
set_option maxRecDepth 100000 in
theorem may19 : MayAt 19 := by
  refine may_at 19 ?_
  rintro x j s ia ib c0 A1 c1 AR cR w f fa A2 c2 A3 c3 A4 c4 ⟨G0, HR, HJ, HFE, HC, HL0, HHC, j1, j2, hl, hx, ha, hb, hf, M0, p0, p1, p2, p3, p4, z0, z1, z2, z3⟩
  have hu := Try.underlying37; have hu1 := Try.underlying34; have hu2 := Try.underlying73; have hu3 := Try.underlying76; have hu4 := Try.underlying31; have hu5 := Try.underlying69; have hu6 := Try.underlying105
  go_enter Try.func54, Try.ntmps54
  go_wp2
  go_ret
  exact ⟨rfl, M0.out.below⟩
set_option maxHeartbeats 8000000 in
set_option maxRecDepth 100000 in
theorem may2 : MayAt 2 := by
  refine may_at 2 ?_
  rintro x j s ia ib c0 A1 c1 AR cR w f fa A2 c2 A3 c3 A4 c4 ⟨G0, HR, HJ, HFE, HC, HL0, HHC, j1, j2, hl, hx, ha, hb, hf, M0, p0, p1, p2, p3, p4, z0, z1, z2, z3⟩
  have hu := Try.underlying37; have hu1 := Try.underlying34; have hu2 := Try.underlying73; have hu3 := Try.underlying76; have hu4 := Try.underlying31; have hu5 := Try.underlying69; have hu6 := Try.underlying105
  go_enter Try.func54, Try.ntmps54
  go_wp2_with fail
  refine (spec_l16Reg.calls s.acc AR cR s.regs ia 1 _ _ (Kd.C_below HR.out M0.out.below) HHC.out (spec_reg s ia 1 hl)).mono ?_; rintro e w1 ⟨rfl, hb⟩
  have M1 := Aside0.mk (M0.out.step hb); clear hb M0 z0 z1 z2 z3 p0 p1 p2 p3 p4
  go_wp2
  go_ret
  exact ⟨rfl, M1.out.below⟩
set_option maxHeartbeats 8000000 in
set_option maxRecDepth 100000 in
theorem may5 : MayAt 5 := by
  refine may_at 5 ?_
  rintro x j s ia ib c0 A1 c1 AR cR w f fa A2 c2 A3 c3 A4 c4 ⟨G0, HR, HJ, HFE, HC, HL0, HHC, j1, j2, hl, hx, ha, hb, hf, M0, p0, p1, p2, p3, p4, z0, z1, z2, z3⟩
  have hu := Try.underlying37; have hu1 := Try.underlying34; have hu2 := Try.underlying73; have hu3 := Try.underlying76; have hu4 := Try.underlying31; have hu5 := Try.underlying69; have hu6 := Try.underlying105
  go_enter Try.func54, Try.ntmps54
  go_wp2_with fail
  refine (spec_l16Reg.calls s.acc AR cR s.regs ia 2 _ _ (Kd.C_below HR.out M0.out.below) HHC.out (spec_reg s ia 2 hl)).mono ?_; rintro e w1 ⟨rfl, hb⟩
  have M1 := Aside0.mk (M0.out.step hb); clear hb M0 z0 z1 z2 z3 p0 p1 p2 p3 p4
  go_wp2
  go_ret
  exact ⟨rfl, M1.out.below⟩
set_option maxHeartbeats 8000000 in
set_option maxRecDepth 100000 in
theorem may3 : MayAt 3 := by
  refine may_at 3 ?_
  rintro x j s ia ib c0 A1 c1 AR cR w f fa A2 c2 A3 c3 A4 c4 ⟨G0, HR, HJ, HFE, HC, HL0, HHC, j1, j2, hl, hx, ha, hb, hf, M0, p0, p1, p2, p3, p4, z0, z1, z2, z3⟩
  have hu := Try.underlying37; have hu1 := Try.underlying34; have hu2 := Try.underlying73; have hu3 := Try.underlying76; have hu4 := Try.underlying31; have hu5 := Try.underlying69; have hu6 := Try.underlying105
  go_enter Try.func54, Try.ntmps54
  go_wp2_with fail
  refine (spec_l16Room.calls s.acc AR cR s.regs ia _ _ (Kd.C_below HR.out M0.out.below) HHC.out (spec_room s ia hl)).mono ?_; rintro e w1 ⟨rfl, hb⟩
  have M1 := Aside0.mk (M0.out.step hb); clear hb M0 z0 z1 z2 z3 p0 p1 p2 p3 p4
  rcases Bool.eq_false_or_eq_true (room s ia) with hd | hd
  · rw [hd]
    go_wp2
    go_ret
    exact ⟨by unfold mayB; simp [hd], M1.out.below⟩
  · rw [hd]
    go_wp2
    go_ret
    exact ⟨by unfold mayB; simp [hd], M1.out.below⟩
set_option maxHeartbeats 8000000 in
set_option maxRecDepth 100000 in
theorem may4 : MayAt 4 := by
  refine may_at 4 ?_
  rintro x j s ia ib c0 A1 c1 AR cR w f fa A2 c2 A3 c3 A4 c4 ⟨G0, HR, HJ, HFE, HC, HL0, HHC, j1, j2, hl, hx, ha, hb, hf, M0, p0, p1, p2, p3, p4, z0, z1, z2, z3⟩
  have hu := Try.underlying37; have hu1 := Try.underlying34; have hu2 := Try.underlying73; have hu3 := Try.underlying76; have hu4 := Try.underlying31; have hu5 := Try.underlying69; have hu6 := Try.underlying105
  go_enter Try.func54, Try.ntmps54
  go_wp2_with fail
  refine (spec_l16Room.calls s.acc AR cR s.regs ia _ _ (Kd.C_below HR.out M0.out.below) HHC.out (spec_room s ia hl)).mono ?_; rintro e w1 ⟨rfl, hb⟩
  have M1 := Aside0.mk (M0.out.step hb); clear hb M0 z0 z1 z2 z3 p0 p1 p2 p3 p4
  rcases Bool.eq_false_or_eq_true (room s ia) with hd | hd
  · rw [hd]
    go_wp2
    go_ret
    exact ⟨by unfold mayB; simp [hd], M1.out.below⟩
  · rw [hd]
    go_wp2
    go_ret
    exact ⟨by unfold mayB; simp [hd], M1.out.below⟩
set_option maxHeartbeats 8000000 in
set_option maxRecDepth 100000 in
theorem may6 : MayAt 6 := by
  refine may_at 6 ?_
  rintro x j s ia ib c0 A1 c1 AR cR w f fa A2 c2 A3 c3 A4 c4 ⟨G0, HR, HJ, HFE, HC, HL0, HHC, j1, j2, hl, hx, ha, hb, hf, M0, p0, p1, p2, p3, p4, z0, z1, z2, z3⟩
  have hu := Try.underlying37; have hu1 := Try.underlying34; have hu2 := Try.underlying73; have hu3 := Try.underlying76; have hu4 := Try.underlying31; have hu5 := Try.underlying69; have hu6 := Try.underlying105
  go_enter Try.func54, Try.ntmps54
  go_wp2_with fail
  refine (spec_l16Reg.calls s.acc AR cR s.regs ia 2 _ _ (Kd.C_below HR.out M0.out.below) HHC.out (spec_reg s ia 2 hl)).mono ?_; rintro e w1 ⟨rfl, hb⟩
  have M1 := Aside0.mk (M0.out.step hb); clear hb M0 z0 z1 z2 z3 p0 p1 p2 p3 p4
  rcases Bool.eq_false_or_eq_true (regIs s ia 2) with hd | hd
  · rw [hd]
    go_wp2
    go_ret
    exact ⟨by unfold mayB; simp [hd], M1.out.below⟩
  · rw [hd]
    go_wp2
    go_ret
    exact ⟨by unfold mayB; simp [hd], M1.out.below⟩
set_option maxHeartbeats 8000000 in
set_option maxRecDepth 100000 in
theorem may9 : MayAt 9 := by
  refine may_at 9 ?_
  rintro x j s ia ib c0 A1 c1 AR cR w f fa A2 c2 A3 c3 A4 c4 ⟨G0, HR, HJ, HFE, HC, HL0, HHC, j1, j2, hl, hx, ha, hb, hf, M0, p0, p1, p2, p3, p4, z0, z1, z2, z3⟩
  have hu := Try.underlying37; have hu1 := Try.underlying34; have hu2 := Try.underlying73; have hu3 := Try.underlying76; have hu4 := Try.underlying31; have hu5 := Try.underlying69; have hu6 := Try.underlying105
  go_enter Try.func54, Try.ntmps54
  go_wp2_with fail
  refine (spec_l01In.calls _ _ _ _ _ (Img.spec_in ia 1 11)).mono ?_; rintro e w1 ⟨rfl, ⟨⟨n1, rfl⟩⟩⟩
  have M1 := Aside0.mk (M0.out.draw n1); clear M0 z0 z1 z2 z3 p0 p1 p2 p3 p4
  have z0 := M1.out.box (.tail _ (.tail _ (.tail _ (.head _)))); have z1 := M1.out.box (.tail _ (.tail _ (.head _))); have z2 := M1.out.box (.tail _ (.head _)); have z3 := M1.out.box (.head _)
  rcases Bool.eq_false_or_eq_true (Img.inB ia 1 11) with hd | hd
  rotate_left
  · rw [hd]
    go_wp2
    go_ret
    exact ⟨by unfold mayB; have h2 : decide (1 ≤ ia ∧ ia ≤ 11) = false := hd; simp [h2], M1.out.below⟩
  rw [hd]
  go_wp2_with fail
  refine (spec_l16Reg.calls s.acc AR cR s.regs ib 1 _ _ (Kd.C_below HR.out M1.out.below) HHC.out (spec_reg s ib 1 hl)).mono ?_; rintro e w2 ⟨rfl, hb⟩
  have M2 := Aside0.mk (M1.out.step hb); clear hb M1 z0 z1 z2 z3
  rcases Bool.eq_false_or_eq_true (regIs s ib 1) with hq | hq
  · rw [hq]
    go_wp2
    go_ret
    exact ⟨by unfold mayB; have h2 : decide (1 ≤ ia ∧ ia ≤ 11) = true := hd; simp [h2, hq], M2.out.below⟩
  · rw [hq]
    go_wp2
    go_ret
    exact ⟨by unfold mayB; have h2 : decide (1 ≤ ia ∧ ia ≤ 11) = true := hd; simp [h2, hq], M2.out.below⟩
set_option maxHeartbeats 8000000 in
set_option maxRecDepth 100000 in
theorem may16 : MayAt 16 := by
  refine may_at 16 ?_
  rintro x j s ia ib c0 A1 c1 AR cR w f fa A2 c2 A3 c3 A4 c4 ⟨G0, HR, HJ, HFE, HC, HL0, HHC, j1, j2, hl, hx, ha, hb, hf, M0, p0, p1, p2, p3, p4, z0, z1, z2, z3⟩
  have hu := Try.underlying37; have hu1 := Try.underlying34; have hu2 := Try.underlying73; have hu3 := Try.underlying76; have hu4 := Try.underlying31; have hu5 := Try.underlying69; have hu6 := Try.underlying105
  go_enter Try.func54, Try.ntmps54
  go_upto_region 38 with fail
  clear z0 z1 z2 z3 p0 p1 p2 p3 p4
  go_loopw [13] (fun v wx => ∃ k : Nat, v = .int .i64 k ∧ k ≤ ib.toNat + 1 ∧ argsTo s ia k = true ∧ Aside0 (Mem w wx [Hold.box (w.heap.size + 3) #[.int .i64 f.params, .int .i64 f.regs, .slice A2 f.caps.length c2, .slice A3 f.code.length c3, .slice A4 f.handlers.length c4] 73, Hold.box (w.heap.size + 2) #[.int .i64 s.acc, .slice AR s.regs.length cR] 31, Hold.box (w.heap.size + 1) #[.int .i64 16, .int .i64 ia, .int .i64 ib] 76, Hold.box (w.heap.size) #[.slice (some fa) x.funcs.length c0, .slice A1 x.consts.length c1] 37])) (fun v _ => ib.toNat + 1 - (intOf v).toNat)
  case atStart => exact ⟨0, rfl, by omega, rfl, M0⟩
  case round =>
  clear M0
  obtain ⟨k, rfl, hk, hA, M1⟩ := hrel
  have z0 := M1.out.box (.tail _ (.tail _ (.tail _ (.head _)))); have z1 := M1.out.box (.tail _ (.tail _ (.head _))); have z2 := M1.out.box (.tail _ (.head _)); have z3 := M1.out.box (.head _)
  have i6 : IntKind.i64.wrap (ia + (k : Int)) = ia + (k : Int) := IntWalk.i64_in _ (by omega)
  have i7 : wrap64 (ia + (k : Int)) = ia + (k : Int) := wrap64_id (by omega) (by omega)
  by_cases hlt : k ≤ ib.toNat
  · have hle : (k : Int) ≤ ib := by omega
    go_wp2_with fail
    refine (spec_l16Reg.calls s.acc AR cR s.regs (ia + (k : Int)) 1 _ _ (Kd.C_below HR.out M1.out.below) HHC.out (spec_reg s (ia + (k : Int)) 1 hl)).mono ?_; rintro e w2 ⟨rfl, hb⟩
    have M2 := Aside0.mk (M1.out.step hb); clear hb M1 z0 z1 z2 z3
    rcases Bool.eq_false_or_eq_true (regIs s (ia + (k : Int)) 1) with hq | hq
    · rw [hq]
      go_wp2
      go_roundw
      case measure => simp [intOf]; omega
      case rel => exact ⟨k + 1, by go_num, by omega, by show (argsTo s ia k && regIs s (ia + (k : Int)) 1) = true; rw [hA, hq]; rfl, M2⟩
    · rw [hq]
      go_wp2
      go_ret
      exact ⟨by rw [show mayB x f ⟨16, ia, ib⟩ s = false from by unfold mayB; simp; exact args_no s ia hq (by omega)]; rfl, M2.out.below⟩
  · have hle : ¬ (k : Int) ≤ ib := by omega
    obtain rfl : k = ib.toNat + 1 := by omega
    go_wp2
    go_ret
    exact ⟨by rw [show mayB x f ⟨16, ia, ib⟩ s = true from by unfold mayB; simp; exact hA]; rfl, M1.out.below⟩
set_option maxHeartbeats 8000000 in
set_option maxRecDepth 100000 in
theorem may15 : MayAt 15 := by
  refine may_at 15 ?_
  rintro x j s ia ib c0 A1 c1 AR cR w f fa A2 c2 A3 c3 A4 c4 ⟨G0, HR, HJ, HFE, HC, HL0, HHC, j1, j2, hl, hx, ha, hb, hf, M0, p0, p1, p2, p3, p4, z0, z1, z2, z3⟩
  have hu := Try.underlying37; have hu1 := Try.underlying34; have hu2 := Try.underlying73; have hu3 := Try.underlying76; have hu4 := Try.underlying31; have hu5 := Try.underlying69; have hu6 := Try.underlying105
  go_enter Try.func54, Try.ntmps54
  obtain ⟨q, rfl⟩ : ∃ q : Nat, ia = q := ⟨ia.toNat, by omega⟩
  have i4 : IntKind.i64.wrap ((x.funcs.length : Int) - 1) = (x.funcs.length : Int) - 1 := IntWalk.i64_in _ (by omega)
  have i5 : wrap64 ((x.funcs.length : Int) - 1) = (x.funcs.length : Int) - 1 := wrap64_id (by omega) (by omega)
  go_wp2_with fail
  refine (spec_l01In.calls _ _ _ _ _ (Img.spec_in (q : Int) 1 ((x.funcs.length : Int) - 1))).mono ?_; rintro e w1 ⟨rfl, ⟨⟨n1, rfl⟩⟩⟩
  have M1 := Aside0.mk (M0.out.draw n1); clear M0 z0 z1 z2 z3 p0 p1 p2 p3 p4
  have z0 := M1.out.box (.tail _ (.tail _ (.tail _ (.head _)))); have z1 := M1.out.box (.tail _ (.tail _ (.head _))); have z2 := M1.out.box (.tail _ (.head _)); have z3 := M1.out.box (.head _)
  rcases Bool.eq_false_or_eq_true (Img.inB (q : Int) 1 ((x.funcs.length : Int) - 1)) with hd | hd
  rotate_left
  · rw [hd]
    go_wp2
    go_ret
    exact ⟨by unfold mayB; have h2 : decide (1 ≤ (q : Int) ∧ (q : Int) ≤ (x.funcs.length : Int) - 1) = false := hd; simp [h2], M1.out.below⟩
  rw [hd]
  have hq := of_decide_eq_true hd
  have HD := Aside0.mk hd; clear hd
  have hql : q < x.funcs.length := by omega
  have hq2 : (q : Int) < (x.funcs.length : Int) := by omega
  obtain ⟨fb, B2, e2, B3, e3, B4, e4, hfb, y0, y1, y2, y3, y4, gcap, gcode, ghan⟩ := func_at5 G0.out q hql
  have y2 := pw_cell_below M1.out.below y2
  cases hfb
  clear y0 y1 y3 y4 gcode ghan
  obtain ⟨caps, hcs⟩ : ∃ caps, caps = (el zFunc x.funcs q).caps := ⟨_, rfl⟩
  rw [← hcs] at y2 gcap
  have HCS := Aside0.mk hcs; have GCW := Aside0.mk gcap.2; clear hcs gcap
  have HE := Aside0.mk (show mayB x f ⟨15, (q : Int), ib⟩ s = capsTo f s caps caps.length from by unfold mayB; have h2 : decide (1 ≤ (q : Int) ∧ (q : Int) ≤ (x.funcs.length : Int) - 1) = true := HD.out; simp only [h2, HCS.out, Int.toNat_natCast]; simp)
  go_upto_region 31 with fail
  clear z0 z1 z2 z3 y2
  skip
  go_loopw [12] (fun v wx => ∃ k : Nat, v = .int .i64 k ∧ k ≤ caps.length ∧ capsTo f s caps k = true ∧ Aside0 (Mem w wx [Hold.box (w.heap.size + 3) #[.int .i64 f.params, .int .i64 f.regs, .slice A2 f.caps.length c2, .slice A3 f.code.length c3, .slice A4 f.handlers.length c4] 73, Hold.box (w.heap.size + 2) #[.int .i64 s.acc, .slice AR s.regs.length cR] 31, Hold.box (w.heap.size + 1) #[.int .i64 15, .int .i64 (q : Int), .int .i64 ib] 76, Hold.box (w.heap.size) #[.slice (some fa) x.funcs.length c0, .slice A1 x.consts.length c1] 37])) (fun v _ => caps.length - (intOf v).toNat)
  case atStart => exact ⟨0, rfl, by omega, rfl, M1⟩
  case round =>
  obtain ⟨k, rfl, hk, hA, M2⟩ := hrel
  have z0 := M2.out.box (.tail _ (.tail _ (.tail _ (.head _)))); have z1 := M2.out.box (.tail _ (.tail _ (.head _))); have z2 := M2.out.box (.tail _ (.head _)); have z3 := M2.out.box (.head _)
  have hcl : caps.length ≤ 9223372036854775807 := GCW.out.2.1
  by_cases hlt : k < caps.length
  · have hle : (k : Int) < (caps.length : Int) := by omega
    obtain ⟨ca, hca, cK, y0, y1⟩ := Cap_at (Kd.C_below GCW.out M2.out.below) k hlt
    cases hca
    clear cK
    obtain ⟨c, hce⟩ : ∃ c, c = el zCap caps k := ⟨_, rfl⟩
    rw [← hce] at y0 y1
    have HCE := Aside0.mk hce; clear hce
    obtain ⟨L, HL, ML⟩ := Mem.hide M2
    have E2 := Aside0.mk (show Hold.box (w.heap.size + 2) #[.int .i64 s.acc, .slice AR s.regs.length cR] 31 ∈ L from HL.out ▸ (.tail _ (.head _)))
    have E3 := Aside0.mk (show Hold.box (w.heap.size + 3) #[.int .i64 f.params, .int .i64 f.regs, .slice A2 f.caps.length c2, .slice A3 f.code.length c3, .slice A4 f.handlers.length c4] 73 ∈ L from HL.out ▸ (.head _))
    have LT := Aside0.mk (World.block_lt_of_cell? _ _ y0)
    clear M2
    have hcp : capB f s c = capB f s (el zCap caps k) := by rw [HCE.out]
    have MD := Aside0.mk ML.out.drew
    have Y0 := Aside0.mk y0; have Y1 := Aside0.mk y1
    go_upto_region 33 with fail
    clear z0 z1 z2 z3 y0 y1
    rcases Bool.eq_false_or_eq_true c.reg with hcr | hcr
    · rw [hcr] at Y0
      rcases Bool.eq_false_or_eq_true (regIs s c.index 2) with hq3 | hq3
      · have hcv : capB f s c = true := by unfold capB; rw [if_pos hcr]; exact hq3
        refine sz 34 (fun W => W.cell? ⟨w.heap.size + 2, 0, none⟩ = some (.int .i64 s.acc) ∧ W.cell? ⟨w.heap.size + 2, 1, none⟩ = some (.slice AR s.regs.length cR) ∧ W.cell? ⟨w.heap.size + 3, 2, none⟩ = some (.slice A2 f.caps.length c2) ∧ W.cell? (ca.add (k * 2)) = some (.bool true) ∧ W.cell? ⟨(ca.add (k * 2)).block, (ca.add (k * 2)).off + 1, none⟩ = some (.int .i64 c.index)) [] mayS.tab33 mayS.bits33 ⟨(MD.out.box E2.out 0).trans rfl, (MD.out.box E2.out 1).trans rfl, (MD.out.box E3.out 2).trans rfl, Y0.out, Y1.out⟩ (fun HT_ HW_ hHeld => ?_)
        refine pz 0 139 ?_; refine pz 1 140 ?_; refine pz 2 141 ?_; refine pz 3 142 ?_; refine tz 4 143 ?_; refine pz 5 144 ?_; refine pz 7 146 ?_; refine pz 8 147 ?_; refine pz 9 148 ?_; refine pz 10 149 ?_; refine tz 6 145 ?_; refine tz 11 150 ?_
        refine ez 12 (some 151) (fun K hK => ?_)
        refine gz Try.func95 #[.agg #[.int .i64 s.acc, .slice AR s.regs.length cR], .int .i64 c.index, .int .i64 2] ?_
        have C := spec_l16Reg.calls s.acc AR cR s.regs c.index 2 _ _ (Kd.C_below HR.out MD.out.below) HHC.out (spec_reg s c.index 2 hl)
        rw [hq3] at C
        refine C.mono ?_; clear C
        rintro e w5 ⟨rfl, hb⟩
        have M5 := Aside0.mk (MD.out.step hb); have Z0 := Aside0.mk (pw_cell_below hb Y0.out); have Z1 := Aside0.mk (pw_cell_below hb Y1.out); clear hb
        refine ⟨_, rfl, ?_⟩
        refine hK.out _ _ ⟨(M5.out.box E2.out 0).trans rfl, (M5.out.box E2.out 1).trans rfl, (M5.out.box E3.out 2).trans rfl, Z0.out, Z1.out⟩ (fun hHeld => ?_); clear hK K; refine kz (some 151) ?_
        refine pz 13 152 ?_; refine pz 14 153 ?_; refine pz 15 154 ?_; refine pz 16 155 ?_; refine pz 17 156 ?_; refine pz 18 157 ?_; refine pz 19 158 ?_; refine tz 20 159 ?_; refine pz 21 160 ?_; refine pz 22 161 ?_; refine oz 23 162 ?_; refine oz 24 163 ?_; refine oz 25 164 ?_; refine oz 26 165 ?_; refine oz 27 166 ?_; refine oz 28 167 ?_; refine oz 29 168 ?_; refine oz 30 169 ?_; refine oz 31 170 ?_; refine pz 32 171 ?_; refine pz 33 172 ?_
        refine dz ?_
        have hl3 := HL.out; subst hl3; clear HL E2 E3
        go_wp2
        go_roundw
        case measure => simp [intOf]; omega
        case rel => exact ⟨k + 1, by go_num, by omega, by show (capsTo f s caps k && capB f s (el zCap caps k)) = true; rw [hA, ← hcp, hcv]; rfl, M5⟩
      · have hcv : capB f s c = false := by unfold capB; rw [if_pos hcr]; exact hq3
        refine sz 34 (fun W => W.cell? ⟨w.heap.size + 2, 0, none⟩ = some (.int .i64 s.acc) ∧ W.cell? ⟨w.heap.size + 2, 1, none⟩ = some (.slice AR s.regs.length cR) ∧ W.cell? ⟨w.heap.size + 3, 2, none⟩ = some (.slice A2 f.caps.length c2) ∧ W.cell? (ca.add (k * 2)) = some (.bool true) ∧ W.cell? ⟨(ca.add (k * 2)).block, (ca.add (k * 2)).off + 1, none⟩ = some (.int .i64 c.index)) [] mayS.tab33 mayS.bits33 ⟨(MD.out.box E2.out 0).trans rfl, (MD.out.box E2.out 1).trans rfl, (MD.out.box E3.out 2).trans rfl, Y0.out, Y1.out⟩ (fun HT_ HW_ hHeld => ?_)
        refine pz 0 139 ?_; refine pz 1 140 ?_; refine pz 2 141 ?_; refine pz 3 142 ?_; refine tz 4 143 ?_; refine pz 5 144 ?_; refine pz 7 146 ?_; refine pz 8 147 ?_; refine pz 9 148 ?_; refine pz 10 149 ?_; refine tz 6 145 ?_; refine tz 11 150 ?_
        refine ez 12 (some 151) (fun K hK => ?_)
        refine gz Try.func95 #[.agg #[.int .i64 s.acc, .slice AR s.regs.length cR], .int .i64 c.index, .int .i64 2] ?_
        have C := spec_l16Reg.calls s.acc AR cR s.regs c.index 2 _ _ (Kd.C_below HR.out MD.out.below) HHC.out (spec_reg s c.index 2 hl)
        rw [hq3] at C
        refine C.mono ?_; clear C
        rintro e w5 ⟨rfl, hb⟩
        have M5 := Aside0.mk (MD.out.step hb); have Z0 := Aside0.mk (pw_cell_below hb Y0.out); have Z1 := Aside0.mk (pw_cell_below hb Y1.out); clear hb
        refine ⟨_, rfl, ?_⟩
        refine hK.out _ _ ⟨(M5.out.box E2.out 0).trans rfl, (M5.out.box E2.out 1).trans rfl, (M5.out.box E3.out 2).trans rfl, Z0.out, Z1.out⟩ (fun hHeld => ?_); clear hK K; refine kz (some 151) ?_
        refine pz 13 152 ?_; refine pz 14 153 ?_; refine pz 15 154 ?_; refine oz 16 155 ?_; refine oz 17 156 ?_; refine oz 18 157 ?_; refine oz 19 158 ?_; refine oz 20 159 ?_; refine oz 21 160 ?_; refine oz 22 161 ?_; refine oz 23 162 ?_; refine oz 24 163 ?_; refine oz 25 164 ?_; refine oz 26 165 ?_; refine oz 27 166 ?_; refine oz 28 167 ?_; refine oz 29 168 ?_; refine oz 30 169 ?_; refine oz 31 170 ?_; refine oz 32 171 ?_; refine pz 33 172 ?_
        refine dz ?_
        have hl3 := HL.out; subst hl3; clear HL E2 E3
        go_wp2
        go_ret
        exact ⟨by rw [HE.out, caps_no f s caps (k := k) (by rw [← hcp]; exact hcv) hlt]; rfl, M5.out.below⟩
    · rw [hcr] at Y0
      rcases Bool.eq_false_or_eq_true (decide (c.index < (f.caps.length : Int))) with hq3 | hq3
      · have hcv : capB f s c = true := by unfold capB; rw [hcr]; exact hq3
        have hq4 : decide ((f.caps.length : Int) ≤ c.index) = false := by have h := of_decide_eq_true hq3; simp; omega
        refine sz 34 (fun W => W.cell? ⟨w.heap.size + 2, 0, none⟩ = some (.int .i64 s.acc) ∧ W.cell? ⟨w.heap.size + 2, 1, none⟩ = some (.slice AR s.regs.length cR) ∧ W.cell? ⟨w.heap.size + 3, 2, none⟩ = some (.slice A2 f.caps.length c2) ∧ W.cell? (ca.add (k * 2)) = some (.bool false) ∧ W.cell? ⟨(ca.add (k * 2)).block, (ca.add (k * 2)).off + 1, none⟩ = some (.int .i64 c.index)) [] mayS.tab33 mayS.bits33 ⟨(MD.out.box E2.out 0).trans rfl, (MD.out.box E2.out 1).trans rfl, (MD.out.box E3.out 2).trans rfl, Y0.out, Y1.out⟩ (fun HT_ HW_ hHeld => ?_)
        refine pz 0 139 ?_; refine pz 1 140 ?_; refine pz 2 141 ?_; refine pz 3 142 ?_; refine tz 4 143 ?_; refine pz 5 144 ?_; refine oz 6 145 ?_; refine oz 7 146 ?_; refine oz 8 147 ?_; refine oz 9 148 ?_; refine oz 10 149 ?_; refine oz 11 150 ?_; refine oz 12 151 ?_; refine oz 13 152 ?_; refine pz 14 153 ?_; refine pz 15 154 ?_; refine pz 16 155 ?_; refine pz 17 156 ?_; refine pz 18 157 ?_; refine pz 19 158 ?_; refine tz 20 159 ?_; refine pz 21 160 ?_; refine pz 22 161 ?_; refine pz 23 162 ?_; refine pz 24 163 ?_; refine pz 25 164 ?_; refine pz 26 165 ?_; refine pz 28 167 ?_; refine tz 27 166 ?_; refine tz 29 168 ?_; refine pz 30 169 ?_; refine pz 31 170 ?_; refine pz 32 171 ?_; refine pz 33 172 ?_
        refine dz ?_
        have hl3 := HL.out; subst hl3; clear HL E2 E3
        go_wp2
        go_roundw
        case measure => simp [intOf]; omega
        case rel => exact ⟨k + 1, by go_num, by omega, by show (capsTo f s caps k && capB f s (el zCap caps k)) = true; rw [hA, ← hcp, hcv]; rfl, MD⟩
      · have hcv : capB f s c = false := by unfold capB; rw [hcr]; exact hq3
        have hq4 : decide ((f.caps.length : Int) ≤ c.index) = true := by have h := of_decide_eq_false hq3; simp; omega
        refine sz 34 (fun W => W.cell? ⟨w.heap.size + 2, 0, none⟩ = some (.int .i64 s.acc) ∧ W.cell? ⟨w.heap.size + 2, 1, none⟩ = some (.slice AR s.regs.length cR) ∧ W.cell? ⟨w.heap.size + 3, 2, none⟩ = some (.slice A2 f.caps.length c2) ∧ W.cell? (ca.add (k * 2)) = some (.bool false) ∧ W.cell? ⟨(ca.add (k * 2)).block, (ca.add (k * 2)).off + 1, none⟩ = some (.int .i64 c.index)) [] mayS.tab33 mayS.bits33 ⟨(MD.out.box E2.out 0).trans rfl, (MD.out.box E2.out 1).trans rfl, (MD.out.box E3.out 2).trans rfl, Y0.out, Y1.out⟩ (fun HT_ HW_ hHeld => ?_)
        refine pz 0 139 ?_; refine pz 1 140 ?_; refine pz 2 141 ?_; refine pz 3 142 ?_; refine tz 4 143 ?_; refine pz 5 144 ?_; refine oz 6 145 ?_; refine oz 7 146 ?_; refine oz 8 147 ?_; refine oz 9 148 ?_; refine oz 10 149 ?_; refine oz 11 150 ?_; refine oz 12 151 ?_; refine oz 13 152 ?_; refine pz 14 153 ?_; refine pz 15 154 ?_; refine pz 16 155 ?_; refine pz 17 156 ?_; refine pz 18 157 ?_; refine pz 19 158 ?_; refine tz 20 159 ?_; refine pz 21 160 ?_; refine pz 22 161 ?_; refine pz 23 162 ?_; refine pz 24 163 ?_; refine pz 25 164 ?_; refine pz 26 165 ?_; refine pz 28 167 ?_; refine tz 27 166 ?_; refine tz 29 168 ?_; refine pz 30 169 ?_; refine pz 31 170 ?_; refine pz 32 171 ?_; refine pz 33 172 ?_
        refine dz ?_
        have hl3 := HL.out; subst hl3; clear HL E2 E3
        go_wp2
        go_ret
        exact ⟨by rw [HE.out, caps_no f s caps (k := k) (by rw [← hcp]; exact hcv) hlt]; rfl, MD.out.below⟩
  · have hle : ¬ (k : Int) < (caps.length : Int) := by omega
    obtain rfl : k = caps.length := by omega
    go_wp2
    go_ret
    exact ⟨by rw [HE.out, hA]; rfl, M2.out.below⟩
theorem cMayS (x : Image) (j : Nat) (s : State) (i : Ins) (A0 : Option Addr) (c0 : Nat) (A1 : Option Addr) (c1 : Nat) (AR : Option Addr) (cR : Nat) (w : World) (l0 : x.funcs.length ≤ c0) (g0 : kFuncI.C w A0 x.funcs.length x.funcs) (hj : j < x.funcs.length) (hr : (Kd.int .i64).C w AR s.regs.length s.regs) (hc : s.regs.length ≤ cR) (hl : s.regs.length ≤ 1048576) (hx : x.funcs.length ≤ 1048576) (ho : 1 ≤ i.op ∧ i.op ≤ 19) (ha : 0 ≤ i.a ∧ i.a ≤ 300) (hb : 0 ≤ i.b ∧ i.b ≤ 300) (hf : (el zFunc x.funcs j).caps.length ≤ 1048576) :
    Calls Try.prog 54 #[.agg #[.slice A0 x.funcs.length c0, .slice A1 x.consts.length c1], .int .i64 j, .agg #[.int .i64 i.op, .int .i64 i.a, .int .i64 i.b], .agg #[.int .i64 s.acc, .slice AR s.regs.length cR]] w fun e w' => e = .returned (.bool (mayB x (el zFunc x.funcs j) i s)) ∧ Below w.heap.size w w' := by
  obtain ⟨o, a, b⟩ := i
  have h : o = 1 ∨ o = 2 ∨ o = 3 ∨ o = 4 ∨ o = 5 ∨ o = 6 ∨ o = 7 ∨ o = 8 ∨ o = 9 ∨ o = 10 ∨ o = 11 ∨ o = 12 ∨ o = 13 ∨ o = 14 ∨ o = 15 ∨ o = 16 ∨ o = 17 ∨ o = 18 ∨ o = 19 := by have h := ho; simp only at h; omega
  rcases h with rfl | rfl | rfl | rfl | rfl | rfl | rfl | rfl | rfl | rfl | rfl | rfl | rfl | rfl | rfl | rfl | rfl | rfl | rfl
  · exact may1 x j s a b A0 c0 A1 c1 AR cR w l0 g0 hj hr hc hl hx ha hb hf
  · exact may2 x j s a b A0 c0 A1 c1 AR cR w l0 g0 hj hr hc hl hx ha hb hf
  · exact may3 x j s a b A0 c0 A1 c1 AR cR w l0 g0 hj hr hc hl hx ha hb hf
  · exact may4 x j s a b A0 c0 A1 c1 AR cR w l0 g0 hj hr hc hl hx ha hb hf
  · exact may5 x j s a b A0 c0 A1 c1 AR cR w l0 g0 hj hr hc hl hx ha hb hf
  · exact may6 x j s a b A0 c0 A1 c1 AR cR w l0 g0 hj hr hc hl hx ha hb hf
  · exact may7 x j s a b A0 c0 A1 c1 AR cR w l0 g0 hj hr hc hl hx ha hb hf
  · exact may8 x j s a b A0 c0 A1 c1 AR cR w l0 g0 hj hr hc hl hx ha hb hf
  · exact may9 x j s a b A0 c0 A1 c1 AR cR w l0 g0 hj hr hc hl hx ha hb hf
  · exact may10 x j s a b A0 c0 A1 c1 AR cR w l0 g0 hj hr hc hl hx ha hb hf
  · exact may11 x j s a b A0 c0 A1 c1 AR cR w l0 g0 hj hr hc hl hx ha hb hf
  · exact may12 x j s a b A0 c0 A1 c1 AR cR w l0 g0 hj hr hc hl hx ha hb hf
  · exact may13 x j s a b A0 c0 A1 c1 AR cR w l0 g0 hj hr hc hl hx ha hb hf
  · exact may14 x j s a b A0 c0 A1 c1 AR cR w l0 g0 hj hr hc hl hx ha hb hf
  · exact may15 x j s a b A0 c0 A1 c1 AR cR w l0 g0 hj hr hc hl hx ha hb hf
  · exact may16 x j s a b A0 c0 A1 c1 AR cR w l0 g0 hj hr hc hl hx ha hb hf
  · exact may17 x j s a b A0 c0 A1 c1 AR cR w l0 g0 hj hr hc hl hx ha hb hf
  · exact may18 x j s a b A0 c0 A1 c1 AR cR w l0 g0 hj hr hc hl hx ha hb hf
  · exact may19 x j s a b A0 c0 A1 c1 AR cR w l0 g0 hj hr hc hl hx ha hb hf
end Go.Proofs.Ytcbaokflimdjnaa.Flow
end
