/- Part 17 of the proof: general lemmas, contracts of functions, walks. No condition of its own. -/
import Derived.Test.YtcbaokflimdjnaaProg
import Derived.Below
import Derived.Deep.Draws
import Derived.Deep.AppendLies
import Derived.Maps.AppendAt
import Derived.OwnWalk
import Derived.Laws.BytesArg
import Derived.Laws.MakeOwn
import Derived.Laws.OwnMore
import Derived.Deep.OwnRows
import Derived.Tactics
import Derived.Lib.ConvBytes
import Derived.Laws.Slices
import Derived.WalkKit
import Derived.KernelRfl
import Derived.RowKit3
import Derived.Deep.LoopGhost
import Derived.Deep.QuietTactic
import Derived.BigQuiet
import Derived.WideLaws
import Derived.Deep.DeepCutAuto
import Derived.Deep.CutBlock
import Derived.Deep.RegionHeld3
import Derived.Laws.Rows
import Derived.Lib.AppendStr
import Derived.ArgAppend
import Derived.Laws.IdiomCopy
import Derived.OrdersHeld
import Derived.Laws.BitsLemmas
import Derived.RowKit
import Derived.Deep.RegionWith
import Derived.IntWalk
import Derived.Test.YtcbaokflimdjnaaSts1
import Derived.Test.YtcbaokflimdjnaaSts3
import Derived.Test.YtcbaokflimdjnaaSts12
import Derived.Test.YtcbaokflimdjnaaSts4
import Derived.Test.YtcbaokflimdjnaaSts5
import Derived.Test.YtcbaokflimdjnaaSts6
import Derived.Test.YtcbaokflimdjnaaSts7
import Derived.Test.YtcbaokflimdjnaaSts8
import Derived.Test.YtcbaokflimdjnaaSts9
import Derived.Test.YtcbaokflimdjnaaSts14
import Derived.Test.YtcbaokflimdjnaaSts15
import Derived.Test.YtcbaokflimdjnaaSts16
import Derived.Test.YtcbaokflimdjnaaSts10
import Derived.Test.YtcbaokflimdjnaaSts2
import Derived.Test.YtcbaokflimdjnaaSts11
import Derived.Test.YtcbaokflimdjnaaSts13
section
namespace Go.Proofs.Ytcbaokflimdjnaa.QFnExactVerify
open Go.RowKit Go.Proofs.YtcbaokflimdjnaaW.PrintWords Go.Proofs.YtcbaokflimdjnaaW.PrintLast Go.Proofs.YtcbaokflimdjnaaW.PrintMore
theorem run_field194_0 (a0 a1 a2 a3 : Value) (w : World) : (Instr.field 194 (.agg #[a0, a1, a2, a3]) 0).run Try.prog w = .ok a0 w := by kernel_rfl
theorem max2_mx (k k' : IntKind) (x y : Int) : Builtin.max2 (.int k x) (.int k' y) = pure (.int k (mx x y)) := by rw [max2_int]; rfl
theorem min2_mn (k k' : IntKind) (x y : Int) : Builtin.min2 (.int k x) (.int k' y) = pure (.int k (mn x y)) := by rw [min2_int]; rfl
attribute [local go_sem] max_two min_two max_three min_three max_four min_four run_field194_0 max2_mx min2_mn   -- for this text's walks alone
set_option linter.unusedVariables false
set_option linter.unusedSimpArgs false
def errW : Option Int → Value
  | none => .nilIface
  | some c => .iface 0 (.int .i64 c)
theorem errW_none : errW none = .nilIface := rfl
theorem errW_some (c : Int) : errW (some c) = .iface 0 (.int .i64 c) := rfl
theorem info3 : (Try.prog.info? 3).map (fun i => (i.zero, i.size, i.bytes)) = some (some (.int .i64 0), 1, 8) := by kernel_rfl
-- the values' own types
structure S100 where
  f0 : Int
  f1 : Int
  f2 : ByteArray
end Go.Proofs.Ytcbaokflimdjnaa.QFnExactVerify
end
section
namespace Go.Proofs.Ytcbaokflimdjnaa.PureJoin
open Go.RowKit Go.Proofs.Ytcbaokflimdjnaa Go.Proofs.Ytcbaokflimdjnaa.Num Go.Proofs.Ytcbaokflimdjnaa.Law Go.Proofs.Ytcbaokflimdjnaa.QFnExactVerify Go.Proofs.YtcbaokflimdjnaaW.PrintWords Go.Proofs.YtcbaokflimdjnaaW.PrintLast Go.Proofs.YtcbaokflimdjnaaW.PrintMore Go.Proofs.Ytcbaokflimdjnaa.Steps
set_option linter.unusedVariables false
set_option linter.unusedSimpArgs false
set_option autoImplicit false
/-- What both have alike, place by place. -/
def alike (l m : List Int) (i : Nat) : Int := if i < l.length ∧ i < m.length ∧ l.getD i 0 = m.getD i 0 then l.getD i 0 else 0
def joined (l m : List Int) : List Int := (List.range (max l.length m.length)).map (alike l m)
theorem joined_length (l m : List Int) : (joined l m).length = max l.length m.length := by simp [joined]
theorem joined_get (l m : List Int) (i : Nat) (h : i < (joined l m).length) : (joined l m).getD i 0 = alike l m i := by
  rw [List.getD_eq_getElem?_getD, List.getElem?_eq_getElem h]
  simp [joined]
theorem alike_out (l m : List Int) {j : Nat} (h : ¬ (j < l.length ∧ j < m.length)) : alike l m j = 0 := by unfold alike; rw [if_neg (fun k => h ⟨k.1, k.2.1⟩)]
theorem range_step (l m : List Int) (j : Nat) : (List.range (j + 1)).map (alike l m) = (List.range j).map (alike l m) ++ [alike l m j] := by rw [List.range_succ, List.map_append]; rfl
def joinS (a b : State) : State := ⟨if a.acc = b.acc then a.acc else 0, joined a.regs b.regs⟩
/-- What both have alike, so far. -/
def pre (l m : List Int) (j : Nat) : List Int := (List.range j).map (alike l m)
theorem pre_len (l m : List Int) (j : Nat) : (pre l m j).length = j := by simp [pre]
theorem pre_step (l m : List Int) (j : Nat) : pre l m (j + 1) = pre l m j ++ [alike l m j] := range_step l m j
theorem pre_all (l m : List Int) : pre l m (max l.length m.length) = joined l m := rfl
def joinS_.T8 : Bool × List (List Nat × List Nat) := (true, [([], []), ([0], [0]), ([], []), ([1, 2], [1, 2]), ([3], [3]), ([], []), ([5], [5]), ([], []), ([6, 7], [6, 7]), ([8], [8]), ([4, 9], [4, 9])])
def joinS_.B8 : List Nat := [0, 1, 0, 7, 15, 0, 32, 0, 224, 480, 1023]
theorem joinS_.tab8 : rtab .any (opsOf Try.f142 8) = joinS_.T8 := by kernel_rfl
theorem joinS_.bits8 : waitsOk joinS_.T8.2 joinS_.B8 = true := by kernel_rfl
set_option maxHeartbeats 8000000 in
set_option maxRecDepth 100000 in
theorem specJoin (a b : State) (ca cb : List Value) (w : World) (ha : kStateI.K w a ca) (hb : kStateI.K w b cb) (hl : a.regs.length ≤ 1048576) (hm : b.regs.length ≤ 1048576) :
    Calls Try.prog 142 #[.agg ⟨ca⟩, .agg ⟨cb⟩] w fun e w' => ∃ ds, e = .returned (.agg ⟨ds⟩) ∧ kStateI.M w' w.heap.size (fun _ => True) (joinS a b) ds ∧ Below w.heap.size w w' := by
  obtain ⟨AA, cA, rfl, h1, h2⟩ := kStateI_open ha
  obtain ⟨AB, cB, rfl, h3, h4⟩ := kStateI_open hb
  have HA := Aside0.mk h2; have HB := Aside0.mk h4
  have hu := Try.underlying31; have hu1 := Try.underlying26
  clear ha hb h1 h2 h3 h4
  have M0 := Aside0.mk (((((Mem.start w).allocAt rfl #[.int .i64 a.acc, .slice AA a.regs.length cA] 31).allocAt (g := w.heap.size + 1) (by simp) #[.int .i64 b.acc, .slice AB b.regs.length cB] 31).allocAt (g := w.heap.size + 2) (by simp) #[.int .i64 0, .slice none 0 0] 31).allocAt (g := w.heap.size + 3) (by simp) #[.int .i64 0, .slice none 0 0] 31)
  obtain ⟨acc, hac⟩ : ∃ acc, acc = (joinS a b).acc := ⟨_, rfl⟩
  have HAC := Aside0.mk hac; clear hac
  go_enter Try.func142, Try.ntmps142
  go_upto_region 2 with fail
  generalize ((((w.alloc (.cells #[.int .i64 a.acc, .slice AA a.regs.length cA] 31)).alloc (.cells #[.int .i64 b.acc, .slice AB b.regs.length cB] 31)).alloc (.cells #[.int .i64 0, .slice none 0 0] 31)).alloc (.cells #[.int .i64 0, .slice none 0 0] 31)) = w1 at M0 ⊢
  have z0 := M0.out.box (.tail _ (.tail _ (.tail _ (.head _)))); have z1 := M0.out.box (.tail _ (.tail _ (.head _))); have z3 := M0.out.box (.head _); have f3 := M0.out.free (.head _)
  go_upto_if 14 with (fail)
  go_cut [4] (fun v wx => v = .pointer (some ⟨w.heap.size + 1 + 1, 0, none⟩) ∧ Aside0 (Mem w wx [Hold.box (w.heap.size + 3) #[.int .i64 acc, .slice none 0 0] 31, Hold.box (w.heap.size + 2) #[.int .i64 0, .slice none 0 0] 31, Hold.box (w.heap.size + 1) #[.int .i64 b.acc, .slice AB b.regs.length cB] 31, Hold.box w.heap.size #[.int .i64 a.acc, .slice AA a.regs.length cA] 31]))
  case first =>
    by_cases he : a.acc = b.acc
    · have he2 : (a.acc == b.acc) = true := by simp [he]
      have hac : acc = a.acc := by rw [HAC.out]; show (if a.acc = b.acc then a.acc else 0) = _; rw [if_pos he]
      have M1 := Aside0.mk (Mem.set (A := []) M0.out 0 (.int .i64 a.acc) rfl)
      have HE := Aside0.mk hac; clear hac he
      go_wp2
      go_meet
      exact ⟨rfl, by rw [HE.out]; exact M1⟩
    · have he2 : (a.acc == b.acc) = false := by simp [he]
      have hac : acc = 0 := by rw [HAC.out]; show (if a.acc = b.acc then a.acc else 0) = _; rw [if_neg he]
      have HE := Aside0.mk hac; clear hac he
      go_wp2
      go_meet
      exact ⟨rfl, by rw [HE.out]; exact M0⟩
  case rest =>
  clear M0 z0 z1 z3 f3
  obtain ⟨rfl, M1⟩ := hcut
  have hsz : w.heap.size + 3 + 1 ≤ wc.heap.size := (M1.out.fits _ (.head _)).2
  have M2 := Aside0.mk (M1.out.pushR (Below.refl _ _) (Kd.R_nil (Kd.int .i64) 3 wc wc.heap.size (fun _ => True))); clear M1
  obtain ⟨lo, hlo⟩ : ∃ lo : Nat, wc.heap.size = lo := ⟨_, rfl⟩
  rw [hlo] at M2 hsz
  clear hlo
  have HLO := Aside0.mk hsz; clear hsz
  have z0 := M2.out.box (.tail _ (.tail _ (.tail _ (.tail _ (.head _))))); have z1 := M2.out.box (.tail _ (.tail _ (.tail _ (.head _))))
  go_upto_region 5 with fail
  clear z0 z1
  go_loopw [6] (fun v wx => ∃ (j hi : Nat) (X : Option Addr) (y : Nat), v = .int .i64 j ∧ j ≤ (min a.regs.length b.regs.length) ∧ lo ≤ hi ∧ Aside0 (Mem w wx [Hold.val (Kd.slice 3 (Kd.int .i64)) lo hi (pre a.regs b.regs j) [.slice X j y], Hold.box (w.heap.size + 3) #[.int .i64 acc, .slice X j y] 31, Hold.box (w.heap.size + 2) #[.int .i64 0, .slice none 0 0] 31, Hold.box (w.heap.size + 1) #[.int .i64 b.acc, .slice AB b.regs.length cB] 31, Hold.box w.heap.size #[.int .i64 a.acc, .slice AA a.regs.length cA] 31])) (fun v _ => (min a.regs.length b.regs.length) - (intOf v).toNat)
  case atStart => exact ⟨0, lo, none, 0, rfl, by omega, Nat.le_refl _, M2⟩
  case round =>
  clear M2
  obtain ⟨j, hi, X, y, rfl, hj, hhi, M3⟩ := hrel
  have z2 := M3.out.box (.tail _ (.tail _ (.tail _ (.tail _ (.head _))))); have z3 := M3.out.box (.tail _ (.tail _ (.tail _ (.head _)))); have z5 := M3.out.box (.tail _ (.head _)); have f5 := M3.out.free (.tail _ (.head _))
  by_cases hlt : j < (min a.regs.length b.regs.length)
  rotate_left
  · have hje : j = (min a.regs.length b.regs.length) := by omega
    by_cases c1 : (j : Int) < (a.regs.length : Int)
    · have c2 : ¬ (j : Int) < (b.regs.length : Int) := by omega
      have HJE := Aside0.mk hje; clear hje
      go_upto_region 12 with fail
      clear z2 z3 z5 f5
      go_loopw [8] (fun v wx => ∃ (j hi : Nat) (X : Option Addr) (y : Nat), v = .int .i64 j ∧ (min a.regs.length b.regs.length) ≤ j ∧ j ≤ (max a.regs.length b.regs.length) ∧ lo ≤ hi ∧ Aside0 (Mem w wx [Hold.val (Kd.slice 3 (Kd.int .i64)) lo hi (pre a.regs b.regs j) [.slice X j y], Hold.box (w.heap.size + 3) #[.int .i64 acc, .slice X j y] 31, Hold.box (w.heap.size + 2) #[.int .i64 0, .slice none 0 0] 31, Hold.box (w.heap.size + 1) #[.int .i64 b.acc, .slice AB b.regs.length cB] 31, Hold.box w.heap.size #[.int .i64 a.acc, .slice AA a.regs.length cA] 31])) (fun v _ => (max a.regs.length b.regs.length) - (intOf v).toNat)
      case atStart => exact ⟨j, hi, X, y, rfl, by have := HJE.out; omega, by have := HJE.out; omega, hhi, M3⟩
      case round =>
      clear M3 hhi hj
      obtain ⟨j2, hi, X, y, rfl, hj0, hj, hhi, M3⟩ := hrel
      have z2 := M3.out.box (.tail _ (.tail _ (.tail _ (.tail _ (.head _))))); have z3 := M3.out.box (.tail _ (.tail _ (.tail _ (.head _)))); have z5 := M3.out.box (.tail _ (.head _)); have f5 := M3.out.free (.tail _ (.head _))
      by_cases hlt2 : j2 < (max a.regs.length b.regs.length)
      rotate_left
      · have hje2 : j2 = (max a.regs.length b.regs.length) := by omega
        have c3 : ¬ (j2 : Int) < (a.regs.length : Int) := by omega
        have c4 : ¬ (j2 : Int) < (b.regs.length : Int) := by omega
        have M11 := Aside0.mk (Mem.set (A := [_, _]) (Mem.set (A := [_, _]) M3.out 0 (.int .i64 acc) rfl) 1 (.slice X j2 y) rfl)
        have z4 := M3.out.box (.tail _ (.tail _ (.head _))); have f4 := M3.out.free (.tail _ (.tail _ (.head _)))
        have HJ2 := Aside0.mk hje2; clear hje2
        go_wp2
        refine bodyPost_ret (results_cell_row rfl _ _ (w.heap.size + 2) 31 #[.int .i64 acc, .slice X j2 y] (0, 0) _ rfl (M11.out.blk (.tail _ (.tail _ (.head _)))) hu rfl (by kernel_rfl)) rfl ?_
        have hrow := M11.out.rowT (.head _)
        rw [show pre a.regs b.regs j2 = (joinS a b).regs from by rw [HJ2.out, pre_all]; rfl] at hrow
        have hm := kStateI_mkM _ _ _ (joinS a b) hrow
        rw [← HAC.out] at hm
        exact ⟨_, rfl, hm, M11.out.below⟩
      have HP := Aside0.mk (show (0 : Int) = alike a.regs b.regs j2 from (alike_out _ _ (by omega)).symm)
      by_cases c3 : (j2 : Int) < (a.regs.length : Int)
      · skip
        go_upto_region 14 with fail
        have hlw : lo ≤ wr.heap.size := Nat.le_trans hhi (M3.out.fits _ (.head _)).2
        go_wp2_with (((with_reducible refine gate_builtin (b := .append) (xs := #[.tmp 72, .tmp 73]) rfl ?_); at_builtin; refine Aside0.out ?_))
        refine ⟨?_⟩
        refine Kd.R_append (Kd.int .i64) (w0 := wr) lo rfl (.tmp 72) (.tmp 73) 26 3 (.int .i64 0) 8 rfl Try.underlying26 info3 rfl (by decide) (by decide) (.slice X j2 y) (pre a.regs b.regs j2) 0 [.int .i64 0] (fun k => lo ≤ k) (fun _ => False) ?aV ?aX rfl (fun _ h => h.elim) (fun k hk => Nat.le_trans hlw hk) (Kd.R_mono (M3.out.row (.head _)) (fun k hk => hk.1)) (Below.refl _ _) hlw (by rw [pre_len]; omega) ?_
        case aV => first | rfl | (go_simp; done) | (go_simp; rfl)
        case aX => first | rfl | (go_simp; done) | (go_simp; rfl)
        intro v9 w9 ho hb9 hg9 hat9; clear hg9 hat9
        rw [show pre a.regs b.regs j2 ++ [0] = pre a.regs b.regs (j2 + 1) from by rw [pre_step, HP.out]] at ho
        obtain ⟨A9, y9, hv9⟩ := Kd.R_slice ho; rw [pre_len] at hv9; subst hv9
        have M9 := Aside0.mk (Mem.grow M3.out (fun h hh => by have hL := HLO.out; simp only [List.mem_cons, List.not_mem_nil, or_false] at hh; rcases hh with rfl | rfl | rfl | rfl <;> (simp only [Hold.box]; omega)) hb9 ho)
        have hh9 : lo ≤ w9.heap.size := Nat.le_trans hlw hb9.size
        have z5 := M9.out.box (.tail _ (.head _)); have f5 := M9.out.free (.tail _ (.head _))
        have M10 := Aside0.mk (Mem.set (A := [_]) M9.out 1 (.slice A9 (j2 + 1) y9) rfl)
        clear ho hb9 M9 M3
        go_wp2
        go_roundw
        case measure => simp [intOf]; omega
        case rel => exact ⟨j2 + 1, w9.heap.size, A9, y9, by go_num, by omega, by omega, hh9, M10⟩
      · exfalso; have := HJE.out; omega
    · skip
      have HJE := Aside0.mk hje; clear hje
      go_upto_region 12 with fail
      clear z2 z3 z5 f5
      go_loopw [8] (fun v wx => ∃ (j hi : Nat) (X : Option Addr) (y : Nat), v = .int .i64 j ∧ (min a.regs.length b.regs.length) ≤ j ∧ j ≤ (max a.regs.length b.regs.length) ∧ lo ≤ hi ∧ Aside0 (Mem w wx [Hold.val (Kd.slice 3 (Kd.int .i64)) lo hi (pre a.regs b.regs j) [.slice X j y], Hold.box (w.heap.size + 3) #[.int .i64 acc, .slice X j y] 31, Hold.box (w.heap.size + 2) #[.int .i64 0, .slice none 0 0] 31, Hold.box (w.heap.size + 1) #[.int .i64 b.acc, .slice AB b.regs.length cB] 31, Hold.box w.heap.size #[.int .i64 a.acc, .slice AA a.regs.length cA] 31])) (fun v _ => (max a.regs.length b.regs.length) - (intOf v).toNat)
      case atStart => exact ⟨j, hi, X, y, rfl, by have := HJE.out; omega, by have := HJE.out; omega, hhi, M3⟩
      case round =>
      clear M3 hhi hj
      obtain ⟨j2, hi, X, y, rfl, hj0, hj, hhi, M3⟩ := hrel
      have z2 := M3.out.box (.tail _ (.tail _ (.tail _ (.tail _ (.head _))))); have z3 := M3.out.box (.tail _ (.tail _ (.tail _ (.head _)))); have z5 := M3.out.box (.tail _ (.head _)); have f5 := M3.out.free (.tail _ (.head _))
      by_cases hlt2 : j2 < (max a.regs.length b.regs.length)
      rotate_left
      · have hje2 : j2 = (max a.regs.length b.regs.length) := by omega
        have c3 : ¬ (j2 : Int) < (a.regs.length : Int) := by omega
        have c4 : ¬ (j2 : Int) < (b.regs.length : Int) := by omega
        have M11 := Aside0.mk (Mem.set (A := [_, _]) (Mem.set (A := [_, _]) M3.out 0 (.int .i64 acc) rfl) 1 (.slice X j2 y) rfl)
        have z4 := M3.out.box (.tail _ (.tail _ (.head _))); have f4 := M3.out.free (.tail _ (.tail _ (.head _)))
        have HJ2 := Aside0.mk hje2; clear hje2
        go_wp2
        refine bodyPost_ret (results_cell_row rfl _ _ (w.heap.size + 2) 31 #[.int .i64 acc, .slice X j2 y] (0, 0) _ rfl (M11.out.blk (.tail _ (.tail _ (.head _)))) hu rfl (by kernel_rfl)) rfl ?_
        have hrow := M11.out.rowT (.head _)
        rw [show pre a.regs b.regs j2 = (joinS a b).regs from by rw [HJ2.out, pre_all]; rfl] at hrow
        have hm := kStateI_mkM _ _ _ (joinS a b) hrow
        rw [← HAC.out] at hm
        exact ⟨_, rfl, hm, M11.out.below⟩
      have HP := Aside0.mk (show (0 : Int) = alike a.regs b.regs j2 from (alike_out _ _ (by omega)).symm)
      by_cases c3 : (j2 : Int) < (a.regs.length : Int)
      · exfalso; have := HJE.out; omega
      · have c4 : (j2 : Int) < (b.regs.length : Int) := by omega
        go_upto_region 14 with fail
        have hlw : lo ≤ wr.heap.size := Nat.le_trans hhi (M3.out.fits _ (.head _)).2
        go_wp2_with (((with_reducible refine gate_builtin (b := .append) (xs := #[.tmp 72, .tmp 73]) rfl ?_); at_builtin; refine Aside0.out ?_))
        refine ⟨?_⟩
        refine Kd.R_append (Kd.int .i64) (w0 := wr) lo rfl (.tmp 72) (.tmp 73) 26 3 (.int .i64 0) 8 rfl Try.underlying26 info3 rfl (by decide) (by decide) (.slice X j2 y) (pre a.regs b.regs j2) 0 [.int .i64 0] (fun k => lo ≤ k) (fun _ => False) ?aV ?aX rfl (fun _ h => h.elim) (fun k hk => Nat.le_trans hlw hk) (Kd.R_mono (M3.out.row (.head _)) (fun k hk => hk.1)) (Below.refl _ _) hlw (by rw [pre_len]; omega) ?_
        case aV => first | rfl | (go_simp; done) | (go_simp; rfl)
        case aX => first | rfl | (go_simp; done) | (go_simp; rfl)
        intro v9 w9 ho hb9 hg9 hat9; clear hg9 hat9
        rw [show pre a.regs b.regs j2 ++ [0] = pre a.regs b.regs (j2 + 1) from by rw [pre_step, HP.out]] at ho
        obtain ⟨A9, y9, hv9⟩ := Kd.R_slice ho; rw [pre_len] at hv9; subst hv9
        have M9 := Aside0.mk (Mem.grow M3.out (fun h hh => by have hL := HLO.out; simp only [List.mem_cons, List.not_mem_nil, or_false] at hh; rcases hh with rfl | rfl | rfl | rfl <;> (simp only [Hold.box]; omega)) hb9 ho)
        have hh9 : lo ≤ w9.heap.size := Nat.le_trans hlw hb9.size
        have z5 := M9.out.box (.tail _ (.head _)); have f5 := M9.out.free (.tail _ (.head _))
        have M10 := Aside0.mk (Mem.set (A := [_]) M9.out 1 (.slice A9 (j2 + 1) y9) rfl)
        clear ho hb9 M9 M3
        go_wp2
        go_roundw
        case measure => simp [intOf]; omega
        case rel => exact ⟨j2 + 1, w9.heap.size, A9, y9, by go_num, by omega, by omega, hh9, M10⟩
  have c1 : (j : Int) < (a.regs.length : Int) := by omega
  have c2 : (j : Int) < (b.regs.length : Int) := by omega
  go_upto_region 8 with fail
  clear z2 z3 z5 f5
  have hj0 : (0 : Int) ≤ (j : Int) := by omega
  obtain ⟨ea, hea, ya⟩ := int_at (Kd.C_below HA.out M3.out.below) j (by omega)
  cases hea
  obtain ⟨eb, heb, yb⟩ := int_at (Kd.C_below HB.out M3.out.below) j (by omega)
  cases heb
  have YA := Aside0.mk ya; have YB := Aside0.mk yb; obtain ⟨ea0, he0, ya0⟩ := int_at HA.out j (by omega); cases he0; have YA0 := Aside0.mk ya0; clear ya0 ya yb
  obtain ⟨L, HL, ML⟩ := Mem.hide M3
  have E2 := Aside0.mk (show Hold.box w.heap.size #[.int .i64 a.acc, .slice (some ea) a.regs.length cA] 31 ∈ L from HL.out ▸ (.tail _ (.tail _ (.tail _ (.tail _ (.head _)))))); have E3 := Aside0.mk (show Hold.box (w.heap.size + 1) #[.int .i64 b.acc, .slice (some eb) b.regs.length cB] 31 ∈ L from HL.out ▸ (.tail _ (.tail _ (.tail _ (.head _)))))
  have M4 := Aside0.mk ML.out.drew
  clear M3 ML
  by_cases heq : el 0 a.regs j = el 0 b.regs j
  · have hq : (el 0 a.regs j == el 0 b.regs j) = true := by simpa using heq
    have HP := Aside0.mk (show el 0 a.regs j = alike a.regs b.regs j from by unfold alike; rw [if_pos ⟨by omega, by omega, heq⟩]; exact (rfl : el 0 a.regs j = el 0 a.regs j))
    clear heq
    refine sz 11 (fun W => W.cell? ⟨w.heap.size, 1, none⟩ = some (.slice (some ea) a.regs.length cA) ∧ W.cell? ⟨w.heap.size + 1, 1, none⟩ = some (.slice (some eb) b.regs.length cB) ∧ W.cell? (ea.add j) = some (.int .i64 (el 0 a.regs j)) ∧ W.cell? (eb.add j) = some (.int .i64 (el 0 b.regs j))) [] joinS_.tab8 joinS_.bits8 ⟨(M4.out.box E2.out 1).trans rfl, (M4.out.box E3.out 1).trans rfl, YA.out, YB.out⟩ (fun HT_ HW_ hHeld => ?_)
    generalize wr.drew = wd at M4 hHeld ⊢
    refine pz 0 32 ?_; refine pz 2 34 ?_; refine pz 5 37 ?_; refine pz 7 39 ?_; refine tz 1 33 ?_; refine pz 3 35 ?_; refine tz 4 36 ?_; refine tz 6 38 ?_; refine pz 8 40 ?_; refine tz 9 41 ?_; refine pz 10 42 ?_
    refine dz ?_
    have hl2 := HL.out; subst hl2; clear HL E2 E3
    have M3 := M4; clear M4
    have z2 := M3.out.box (.tail _ (.tail _ (.tail _ (.tail _ (.head _))))); have z3 := M3.out.box (.tail _ (.tail _ (.tail _ (.head _)))); have z5 := M3.out.box (.tail _ (.head _)); have f5 := M3.out.free (.tail _ (.head _))
    have ya := pw_cell_below M3.out.below YA0.out
    go_upto_region 10 with fail
    clear ya
    have hlw : lo ≤ wd.heap.size := Nat.le_trans hhi (M3.out.fits _ (.head _)).2
    go_wp2_with (((with_reducible refine gate_builtin (b := .append) (xs := #[.tmp 49, .tmp 51]) rfl ?_); at_builtin; refine Aside0.out ?_))
    refine ⟨?_⟩
    refine Kd.R_append (Kd.int .i64) (w0 := wd) lo rfl (.tmp 49) (.tmp 51) 26 3 (.int .i64 0) 8 rfl Try.underlying26 info3 rfl (by decide) (by decide) (.slice X j y) (pre a.regs b.regs j) (el 0 a.regs j) [.int .i64 (el 0 a.regs j)] (fun k => lo ≤ k) (fun _ => False) ?aV ?aX rfl (fun _ h => h.elim) (fun k hk => Nat.le_trans hlw hk) (Kd.R_mono (M3.out.row (.head _)) (fun k hk => hk.1)) (Below.refl _ _) hlw (by rw [pre_len]; omega) ?_
    case aV => first | rfl | (go_simp; done) | (go_simp; rfl)
    case aX => first | rfl | (go_simp; done) | (go_simp; rfl)
    intro v9 w9 ho hb9 hg9 hat9; clear hg9 hat9
    rw [show pre a.regs b.regs j ++ [(el 0 a.regs j)] = pre a.regs b.regs (j + 1) from by rw [pre_step, HP.out]] at ho
    obtain ⟨A9, y9, hv9⟩ := Kd.R_slice ho; rw [pre_len] at hv9; subst hv9
    have M9 := Aside0.mk (Mem.grow M3.out (fun h hh => by have hL := HLO.out; simp only [List.mem_cons, List.not_mem_nil, or_false] at hh; rcases hh with rfl | rfl | rfl | rfl <;> (simp only [Hold.box]; omega)) hb9 ho)
    have hh9 : lo ≤ w9.heap.size := Nat.le_trans hlw hb9.size
    have z5 := M9.out.box (.tail _ (.head _)); have f5 := M9.out.free (.tail _ (.head _))
    have M10 := Aside0.mk (Mem.set (A := [_]) M9.out 1 (.slice A9 (j + 1) y9) rfl)
    clear ho hb9 M9 M3
    go_wp2
    go_roundw
    case measure => simp [intOf]; omega
    case rel => exact ⟨j + 1, w9.heap.size, A9, y9, by go_num, by omega, hh9, M10⟩
  · have hq : (el 0 a.regs j == el 0 b.regs j) = false := by simpa using heq
    have HP := Aside0.mk (show (0 : Int) = alike a.regs b.regs j from by unfold alike; rw [if_neg (fun k => heq k.2.2)])
    clear heq
    refine sz 11 (fun W => W.cell? ⟨w.heap.size, 1, none⟩ = some (.slice (some ea) a.regs.length cA) ∧ W.cell? ⟨w.heap.size + 1, 1, none⟩ = some (.slice (some eb) b.regs.length cB) ∧ W.cell? (ea.add j) = some (.int .i64 (el 0 a.regs j)) ∧ W.cell? (eb.add j) = some (.int .i64 (el 0 b.regs j))) [] joinS_.tab8 joinS_.bits8 ⟨(M4.out.box E2.out 1).trans rfl, (M4.out.box E3.out 1).trans rfl, YA.out, YB.out⟩ (fun HT_ HW_ hHeld => ?_)
    generalize wr.drew = wd at M4 hHeld ⊢
    refine pz 0 32 ?_; refine pz 2 34 ?_; refine pz 5 37 ?_; refine pz 7 39 ?_; refine tz 1 33 ?_; refine pz 3 35 ?_; refine tz 4 36 ?_; refine tz 6 38 ?_; refine pz 8 40 ?_; refine tz 9 41 ?_; refine pz 10 42 ?_
    refine dz ?_
    have hl2 := HL.out; subst hl2; clear HL E2 E3
    have M3 := M4; clear M4
    have z2 := M3.out.box (.tail _ (.tail _ (.tail _ (.tail _ (.head _))))); have z3 := M3.out.box (.tail _ (.tail _ (.tail _ (.head _)))); have z5 := M3.out.box (.tail _ (.head _)); have f5 := M3.out.free (.tail _ (.head _))
    go_upto_region 10 with fail
    have hlw : lo ≤ wd.heap.size := Nat.le_trans hhi (M3.out.fits _ (.head _)).2
    go_wp2_with (((with_reducible refine gate_builtin (b := .append) (xs := #[.tmp 49, .tmp 51]) rfl ?_); at_builtin; refine Aside0.out ?_))
    refine ⟨?_⟩
    refine Kd.R_append (Kd.int .i64) (w0 := wd) lo rfl (.tmp 49) (.tmp 51) 26 3 (.int .i64 0) 8 rfl Try.underlying26 info3 rfl (by decide) (by decide) (.slice X j y) (pre a.regs b.regs j) 0 [.int .i64 0] (fun k => lo ≤ k) (fun _ => False) ?aV ?aX rfl (fun _ h => h.elim) (fun k hk => Nat.le_trans hlw hk) (Kd.R_mono (M3.out.row (.head _)) (fun k hk => hk.1)) (Below.refl _ _) hlw (by rw [pre_len]; omega) ?_
    case aV => first | rfl | (go_simp; done) | (go_simp; rfl)
    case aX => first | rfl | (go_simp; done) | (go_simp; rfl)
    intro v9 w9 ho hb9 hg9 hat9; clear hg9 hat9
    rw [show pre a.regs b.regs j ++ [0] = pre a.regs b.regs (j + 1) from by rw [pre_step, HP.out]] at ho
    obtain ⟨A9, y9, hv9⟩ := Kd.R_slice ho; rw [pre_len] at hv9; subst hv9
    have M9 := Aside0.mk (Mem.grow M3.out (fun h hh => by have hL := HLO.out; simp only [List.mem_cons, List.not_mem_nil, or_false] at hh; rcases hh with rfl | rfl | rfl | rfl <;> (simp only [Hold.box]; omega)) hb9 ho)
    have hh9 : lo ≤ w9.heap.size := Nat.le_trans hlw hb9.size
    have z5 := M9.out.box (.tail _ (.head _)); have f5 := M9.out.free (.tail _ (.head _))
    have M10 := Aside0.mk (Mem.set (A := [_]) M9.out 1 (.slice A9 (j + 1) y9) rfl)
    clear ho hb9 M9 M3
    go_wp2
    go_roundw
    case measure => simp [intOf]; omega
    case rel => exact ⟨j + 1, w9.heap.size, A9, y9, by go_num, by omega, hh9, M10⟩
attribute [local go_sem] max_two max2_mx
def joinI_.T8 : Bool × List (List Nat × List Nat) := (true, [([], []), ([], []), ([1], [1]), ([2], [2]), ([0, 3], [0, 3]), ([4], [4]), ([5], [5]), ([5], [5]), ([7, 5], [5, 7]), ([8, 5], [5, 8]), ([6, 9, 5], [5, 6, 9]), ([5, 10], [5, 10]), ([11, 5], [11]), ([12], [12]), ([13, 12], [12, 13]), ([12], [12]), ([14, 15, 12], [12, 14, 15]), ([16, 12], [12, 16]), ([12], [12]), ([18, 12], [12, 18]), ([12], [12]), ([19, 20, 12], [12, 19, 20]), ([21, 12], [12, 21]), ([17, 22, 12], [12, 17, 22]), ([12, 23], [12, 23])])
def joinI_.B8 : List Nat := [0, 0, 2, 6, 15, 31, 63, 63, 191, 447, 1023, 2047, 4095, 8191, 16383, 8191, 65535, 131071, 8191, 270335, 8191, 1843199, 3940351, 8388607, 16777215]
theorem joinI_.tab8 : rtab .any (opsOf Try.f144 8) = joinI_.T8 := by kernel_rfl
theorem joinI_.bits8 : waitsOk joinI_.T8.2 joinI_.B8 = true := by kernel_rfl
set_option maxHeartbeats 8000000 in
set_option maxRecDepth 100000 in
theorem implJoin (a b : State) (ca cb : List Value) (w : World) (ha : kStateI.K w a ca) (hb : kStateI.K w b cb) (hl : a.regs.length ≤ 1048576) (hm : b.regs.length ≤ 1048576) :
    Calls Try.prog 144 #[.agg ⟨ca⟩, .agg ⟨cb⟩] w fun e w' => ∃ ds, e = .returned (.agg ⟨ds⟩) ∧ kStateI.M w' w.heap.size (fun _ => True) (joinS a b) ds ∧ Below w.heap.size w w' := by
  obtain ⟨AA, cA, rfl, h1, h2⟩ := kStateI_open ha
  obtain ⟨AB, cB, rfl, h3, h4⟩ := kStateI_open hb
  have HA := Aside0.mk h2; have HB := Aside0.mk h4
  have hu := Try.underlying31; have hu1 := Try.underlying26
  clear ha hb h1 h2 h3 h4
  have M0 := Aside0.mk (((((Mem.start w).allocAt rfl #[.int .i64 a.acc, .slice AA a.regs.length cA] 31).allocAt (g := w.heap.size + 1) (by simp) #[.int .i64 b.acc, .slice AB b.regs.length cB] 31).allocAt (g := w.heap.size + 2) (by simp) #[.int .i64 0, .slice none 0 0] 31).allocAt (g := w.heap.size + 3) (by simp) #[.int .i64 0, .slice none 0 0] 31)
  obtain ⟨acc, hac⟩ : ∃ acc, acc = (joinS a b).acc := ⟨_, rfl⟩
  have HAC := Aside0.mk hac; clear hac
  go_enter Try.func144, Try.ntmps144
  go_upto_region 2 with fail
  generalize ((((w.alloc (.cells #[.int .i64 a.acc, .slice AA a.regs.length cA] 31)).alloc (.cells #[.int .i64 b.acc, .slice AB b.regs.length cB] 31)).alloc (.cells #[.int .i64 0, .slice none 0 0] 31)).alloc (.cells #[.int .i64 0, .slice none 0 0] 31)) = w1 at M0 ⊢
  have z0 := M0.out.box (.tail _ (.tail _ (.tail _ (.head _)))); have z1 := M0.out.box (.tail _ (.tail _ (.head _))); have z3 := M0.out.box (.head _); have f3 := M0.out.free (.head _)
  go_upto_if 13 with (fail)
  go_cut [4] (fun v wx => v = .pointer (some ⟨w.heap.size + 1 + 1, 0, none⟩) ∧ Aside0 (Mem w wx [Hold.box (w.heap.size + 3) #[.int .i64 acc, .slice none 0 0] 31, Hold.box (w.heap.size + 2) #[.int .i64 0, .slice none 0 0] 31, Hold.box (w.heap.size + 1) #[.int .i64 b.acc, .slice AB b.regs.length cB] 31, Hold.box w.heap.size #[.int .i64 a.acc, .slice AA a.regs.length cA] 31]))
  case first =>
    by_cases he : a.acc = b.acc
    · have he2 : (a.acc == b.acc) = true := by simp [he]
      have hac : acc = a.acc := by rw [HAC.out]; show (if a.acc = b.acc then a.acc else 0) = _; rw [if_pos he]
      have M1 := Aside0.mk (Mem.set (A := []) M0.out 0 (.int .i64 a.acc) rfl)
      have HE := Aside0.mk hac; clear hac he
      go_wp2
      go_meet
      exact ⟨rfl, by rw [HE.out]; exact M1⟩
    · have he2 : (a.acc == b.acc) = false := by simp [he]
      have hac : acc = 0 := by rw [HAC.out]; show (if a.acc = b.acc then a.acc else 0) = _; rw [if_neg he]
      have HE := Aside0.mk hac; clear hac he
      go_wp2
      go_meet
      exact ⟨rfl, by rw [HE.out]; exact M0⟩
  case rest =>
  clear M0 z0 z1 z3 f3
  obtain ⟨rfl, M1⟩ := hcut
  have hsz : w.heap.size + 3 + 1 ≤ wc.heap.size := (M1.out.fits _ (.head _)).2
  have M2 := Aside0.mk (M1.out.pushR (Below.refl _ _) (Kd.R_nil (Kd.int .i64) 3 wc wc.heap.size (fun _ => True))); clear M1
  obtain ⟨lo, hlo⟩ : ∃ lo : Nat, wc.heap.size = lo := ⟨_, rfl⟩
  rw [hlo] at M2 hsz
  clear hlo
  have HLO := Aside0.mk hsz; clear hsz
  have z0 := M2.out.box (.tail _ (.tail _ (.tail _ (.tail _ (.head _))))); have z1 := M2.out.box (.tail _ (.tail _ (.tail _ (.head _))))
  have hmx : mx (a.regs.length : Int) (b.regs.length : Int) = (((max a.regs.length b.regs.length) : Nat) : Int) := by unfold mx; split <;> omega
  go_upto_region 5 with fail
  clear z0 z1
  try rw [hmx]
  go_loopw [24] (fun v wx => ∃ (j hi : Nat) (X : Option Addr) (y : Nat), v = .int .i64 j ∧ j ≤ (max a.regs.length b.regs.length) ∧ lo ≤ hi ∧ Aside0 (Mem w wx [Hold.val (Kd.slice 3 (Kd.int .i64)) lo hi (pre a.regs b.regs j) [.slice X j y], Hold.box (w.heap.size + 3) #[.int .i64 acc, .slice X j y] 31, Hold.box (w.heap.size + 2) #[.int .i64 0, .slice none 0 0] 31, Hold.box (w.heap.size + 1) #[.int .i64 b.acc, .slice AB b.regs.length cB] 31, Hold.box w.heap.size #[.int .i64 a.acc, .slice AA a.regs.length cA] 31])) (fun v _ => (max a.regs.length b.regs.length) - (intOf v).toNat)
  case atStart => exact ⟨0, lo, none, 0, rfl, by omega, Nat.le_refl _, M2⟩
  case round =>
  clear M2
  obtain ⟨j, hi, X, y, rfl, hj, hhi, M3⟩ := hrel
  have z2 := M3.out.box (.tail _ (.tail _ (.tail _ (.tail _ (.head _))))); have z3 := M3.out.box (.tail _ (.tail _ (.tail _ (.head _)))); have z5 := M3.out.box (.tail _ (.head _)); have f5 := M3.out.free (.tail _ (.head _))
  by_cases hlt : j < (max a.regs.length b.regs.length)
  rotate_left
  · have hje2 : j = (max a.regs.length b.regs.length) := by omega
    have c9 : ¬ (j : Int) < (((max a.regs.length b.regs.length) : Nat) : Int) := by omega
    have M11 := Aside0.mk (Mem.set (A := [_, _]) (Mem.set (A := [_, _]) M3.out 0 (.int .i64 acc) rfl) 1 (.slice X j y) rfl)
    have z4 := M3.out.box (.tail _ (.tail _ (.head _))); have f4 := M3.out.free (.tail _ (.tail _ (.head _)))
    have HJ2 := Aside0.mk hje2; clear hje2
    go_wp2
    refine bodyPost_ret (results_cell_row rfl _ _ (w.heap.size + 2) 31 #[.int .i64 acc, .slice X j y] (0, 0) _ rfl (M11.out.blk (.tail _ (.tail _ (.head _)))) hu rfl (by kernel_rfl)) rfl ?_
    have hrow := M11.out.rowT (.head _)
    rw [show pre a.regs b.regs j = (joinS a b).regs from by rw [HJ2.out, pre_all]; rfl] at hrow
    have hm := kStateI_mkM _ _ _ (joinS a b) hrow
    rw [← HAC.out] at hm
    exact ⟨_, rfl, hm, M11.out.below⟩
  have c9 : (j : Int) < (((max a.regs.length b.regs.length) : Nat) : Int) := by omega
  go_upto_region 8 with fail
  clear z2 z3 z5 f5
  have hj0 : (0 : Int) ≤ (j : Int) := by omega
  by_cases c1 : (j : Int) < (a.regs.length : Int)
  · by_cases c2 : (j : Int) < (b.regs.length : Int)
    · have hjj : j < a.regs.length ∧ j < b.regs.length := by omega
      obtain ⟨ea, hea, ya⟩ := int_at (Kd.C_below HA.out M3.out.below) j (by omega)
      cases hea
      obtain ⟨eb, heb, yb⟩ := int_at (Kd.C_below HB.out M3.out.below) j (by omega)
      cases heb
      have YA := Aside0.mk ya; have YB := Aside0.mk yb; obtain ⟨ea0, he0, ya0⟩ := int_at HA.out j (by omega); cases he0; have YA0 := Aside0.mk ya0; clear ya0 ya yb hjj
      obtain ⟨L, HL, ML⟩ := Mem.hide M3
      have E2 := Aside0.mk (show Hold.box w.heap.size #[.int .i64 a.acc, .slice (some ea) a.regs.length cA] 31 ∈ L from HL.out ▸ (.tail _ (.tail _ (.tail _ (.tail _ (.head _)))))); have E3 := Aside0.mk (show Hold.box (w.heap.size + 1) #[.int .i64 b.acc, .slice (some eb) b.regs.length cB] 31 ∈ L from HL.out ▸ (.tail _ (.tail _ (.tail _ (.head _)))))
      have M4 := Aside0.mk ML.out.drew
      clear M3 ML
      by_cases heq : el 0 a.regs j = el 0 b.regs j
      · have hq : (el 0 a.regs j == el 0 b.regs j) = true := by simpa using heq
        have HP := Aside0.mk (show el 0 a.regs j = alike a.regs b.regs j from by unfold alike; rw [if_pos ⟨by omega, by omega, heq⟩]; exact (rfl : el 0 a.regs j = el 0 a.regs j))
        clear heq
        refine sz 25 (fun W => W.cell? ⟨w.heap.size, 1, none⟩ = some (.slice (some ea) a.regs.length cA) ∧ W.cell? ⟨w.heap.size + 1, 1, none⟩ = some (.slice (some eb) b.regs.length cB) ∧ W.cell? (ea.add j) = some (.int .i64 (el 0 a.regs j)) ∧ W.cell? (eb.add j) = some (.int .i64 (el 0 b.regs j))) [] joinI_.tab8 joinI_.bits8 ⟨(M4.out.box E2.out 1).trans rfl, (M4.out.box E3.out 1).trans rfl, YA.out, YB.out⟩ (fun HT_ HW_ hHeld => ?_)
        generalize wr.drew = wd at M4 hHeld ⊢
        refine pz 0 27 ?_; refine pz 1 28 ?_; refine tz 2 29 ?_; refine pz 3 30 ?_; refine pz 4 31 ?_; refine pz 5 32 ?_; refine pz 6 33 ?_; refine pz 7 34 ?_; refine tz 8 35 ?_; refine pz 9 36 ?_; refine pz 10 37 ?_; refine pz 11 38 ?_; refine pz 12 39 ?_; refine pz 13 40 ?_; refine pz 15 42 ?_; refine pz 18 45 ?_; refine pz 20 47 ?_; refine tz 14 41 ?_; refine pz 16 43 ?_; refine tz 17 44 ?_; refine tz 19 46 ?_; refine pz 21 48 ?_; refine tz 22 49 ?_; refine pz 23 50 ?_; refine pz 24 51 ?_
        refine dz ?_
        have hl2 := HL.out; subst hl2; clear HL E2 E3
        have M3 := M4; clear M4
        have z2 := M3.out.box (.tail _ (.tail _ (.tail _ (.tail _ (.head _))))); have z3 := M3.out.box (.tail _ (.tail _ (.tail _ (.head _)))); have z5 := M3.out.box (.tail _ (.head _)); have f5 := M3.out.free (.tail _ (.head _))
        have ya := pw_cell_below M3.out.below YA0.out
        go_upto_region 10 with fail
        clear ya
        have hlw : lo ≤ wd.heap.size := Nat.le_trans hhi (M3.out.fits _ (.head _)).2
        go_wp2_with (((with_reducible refine gate_builtin (b := .append) (xs := #[.tmp 58, .tmp 60]) rfl ?_); at_builtin; refine Aside0.out ?_))
        refine ⟨?_⟩
        refine Kd.R_append (Kd.int .i64) (w0 := wd) lo rfl (.tmp 58) (.tmp 60) 26 3 (.int .i64 0) 8 rfl Try.underlying26 info3 rfl (by decide) (by decide) (.slice X j y) (pre a.regs b.regs j) (el 0 a.regs j) [.int .i64 (el 0 a.regs j)] (fun k => lo ≤ k) (fun _ => False) ?aV ?aX rfl (fun _ h => h.elim) (fun k hk => Nat.le_trans hlw hk) (Kd.R_mono (M3.out.row (.head _)) (fun k hk => hk.1)) (Below.refl _ _) hlw (by rw [pre_len]; omega) ?_
        case aV => first | rfl | (go_simp; done) | (go_simp; rfl)
        case aX => first | rfl | (go_simp; done) | (go_simp; rfl)
        intro v9 w9 ho hb9 hg9 hat9; clear hg9 hat9
        rw [show pre a.regs b.regs j ++ [(el 0 a.regs j)] = pre a.regs b.regs (j + 1) from by rw [pre_step, HP.out]] at ho
        obtain ⟨A9, y9, hv9⟩ := Kd.R_slice ho; rw [pre_len] at hv9; subst hv9
        have M9 := Aside0.mk (Mem.grow M3.out (fun h hh => by have hL := HLO.out; simp only [List.mem_cons, List.not_mem_nil, or_false] at hh; rcases hh with rfl | rfl | rfl | rfl <;> (simp only [Hold.box]; omega)) hb9 ho)
        have hh9 : lo ≤ w9.heap.size := Nat.le_trans hlw hb9.size
        have z5 := M9.out.box (.tail _ (.head _)); have f5 := M9.out.free (.tail _ (.head _))
        have M10 := Aside0.mk (Mem.set (A := [_]) M9.out 1 (.slice A9 (j + 1) y9) rfl)
        clear ho hb9 M9 M3
        go_wp2
        go_roundw
        case measure => simp [intOf]; omega
        case rel => exact ⟨j + 1, w9.heap.size, A9, y9, by go_num, by omega, hh9, M10⟩
      · have hq : (el 0 a.regs j == el 0 b.regs j) = false := by simpa using heq
        have HP := Aside0.mk (show (0 : Int) = alike a.regs b.regs j from by unfold alike; rw [if_neg (fun k => heq k.2.2)])
        clear heq
        refine sz 25 (fun W => W.cell? ⟨w.heap.size, 1, none⟩ = some (.slice (some ea) a.regs.length cA) ∧ W.cell? ⟨w.heap.size + 1, 1, none⟩ = some (.slice (some eb) b.regs.length cB) ∧ W.cell? (ea.add j) = some (.int .i64 (el 0 a.regs j)) ∧ W.cell? (eb.add j) = some (.int .i64 (el 0 b.regs j))) [] joinI_.tab8 joinI_.bits8 ⟨(M4.out.box E2.out 1).trans rfl, (M4.out.box E3.out 1).trans rfl, YA.out, YB.out⟩ (fun HT_ HW_ hHeld => ?_)
        generalize wr.drew = wd at M4 hHeld ⊢
        refine pz 0 27 ?_; refine pz 1 28 ?_; refine tz 2 29 ?_; refine pz 3 30 ?_; refine pz 4 31 ?_; refine pz 5 32 ?_; refine pz 6 33 ?_; refine pz 7 34 ?_; refine tz 8 35 ?_; refine pz 9 36 ?_; refine pz 10 37 ?_; refine pz 11 38 ?_; refine pz 12 39 ?_; refine pz 13 40 ?_; refine pz 15 42 ?_; refine pz 18 45 ?_; refine pz 20 47 ?_; refine tz 14 41 ?_; refine pz 16 43 ?_; refine tz 17 44 ?_; refine tz 19 46 ?_; refine pz 21 48 ?_; refine tz 22 49 ?_; refine pz 23 50 ?_; refine pz 24 51 ?_
        refine dz ?_
        have hl2 := HL.out; subst hl2; clear HL E2 E3
        have M3 := M4; clear M4
        have z2 := M3.out.box (.tail _ (.tail _ (.tail _ (.tail _ (.head _))))); have z3 := M3.out.box (.tail _ (.tail _ (.tail _ (.head _)))); have z5 := M3.out.box (.tail _ (.head _)); have f5 := M3.out.free (.tail _ (.head _))
        go_upto_region 10 with fail
        have hlw : lo ≤ wd.heap.size := Nat.le_trans hhi (M3.out.fits _ (.head _)).2
        go_wp2_with (((with_reducible refine gate_builtin (b := .append) (xs := #[.tmp 58, .tmp 60]) rfl ?_); at_builtin; refine Aside0.out ?_))
        refine ⟨?_⟩
        refine Kd.R_append (Kd.int .i64) (w0 := wd) lo rfl (.tmp 58) (.tmp 60) 26 3 (.int .i64 0) 8 rfl Try.underlying26 info3 rfl (by decide) (by decide) (.slice X j y) (pre a.regs b.regs j) 0 [.int .i64 0] (fun k => lo ≤ k) (fun _ => False) ?aV ?aX rfl (fun _ h => h.elim) (fun k hk => Nat.le_trans hlw hk) (Kd.R_mono (M3.out.row (.head _)) (fun k hk => hk.1)) (Below.refl _ _) hlw (by rw [pre_len]; omega) ?_
        case aV => first | rfl | (go_simp; done) | (go_simp; rfl)
        case aX => first | rfl | (go_simp; done) | (go_simp; rfl)
        intro v9 w9 ho hb9 hg9 hat9; clear hg9 hat9
        rw [show pre a.regs b.regs j ++ [0] = pre a.regs b.regs (j + 1) from by rw [pre_step, HP.out]] at ho
        obtain ⟨A9, y9, hv9⟩ := Kd.R_slice ho; rw [pre_len] at hv9; subst hv9
        have M9 := Aside0.mk (Mem.grow M3.out (fun h hh => by have hL := HLO.out; simp only [List.mem_cons, List.not_mem_nil, or_false] at hh; rcases hh with rfl | rfl | rfl | rfl <;> (simp only [Hold.box]; omega)) hb9 ho)
        have hh9 : lo ≤ w9.heap.size := Nat.le_trans hlw hb9.size
        have z5 := M9.out.box (.tail _ (.head _)); have f5 := M9.out.free (.tail _ (.head _))
        have M10 := Aside0.mk (Mem.set (A := [_]) M9.out 1 (.slice A9 (j + 1) y9) rfl)
        clear ho hb9 M9 M3
        go_wp2
        go_roundw
        case measure => simp [intOf]; omega
        case rel => exact ⟨j + 1, w9.heap.size, A9, y9, by go_num, by omega, hh9, M10⟩
    · have HP := Aside0.mk (show (0 : Int) = alike a.regs b.regs j from (alike_out _ _ (by omega)).symm)
      obtain ⟨L, HL, ML⟩ := Mem.hide M3
      have E2 := Aside0.mk (show Hold.box w.heap.size #[.int .i64 a.acc, .slice AA a.regs.length cA] 31 ∈ L from HL.out ▸ (.tail _ (.tail _ (.tail _ (.tail _ (.head _)))))); have E3 := Aside0.mk (show Hold.box (w.heap.size + 1) #[.int .i64 b.acc, .slice AB b.regs.length cB] 31 ∈ L from HL.out ▸ (.tail _ (.tail _ (.tail _ (.head _)))))
      have M4 := Aside0.mk ML.out.drew
      clear M3 ML
      refine sz 25 (fun W => W.cell? ⟨w.heap.size, 1, none⟩ = some (.slice AA a.regs.length cA) ∧ W.cell? ⟨w.heap.size + 1, 1, none⟩ = some (.slice AB b.regs.length cB)) [] joinI_.tab8 joinI_.bits8 ⟨(M4.out.box E2.out 1).trans rfl, (M4.out.box E3.out 1).trans rfl⟩ (fun HT_ HW_ hHeld => ?_)
      generalize wr.drew = wd at M4 hHeld ⊢
      refine pz 0 27 ?_; refine pz 1 28 ?_; refine tz 2 29 ?_; refine pz 3 30 ?_; refine pz 4 31 ?_; refine pz 5 32 ?_; refine pz 6 33 ?_; refine pz 7 34 ?_; refine tz 8 35 ?_; refine pz 9 36 ?_; refine pz 10 37 ?_; refine pz 11 38 ?_; refine pz 12 39 ?_; refine oz 13 40 ?_; refine oz 14 41 ?_; refine oz 15 42 ?_; refine oz 16 43 ?_; refine oz 17 44 ?_; refine oz 18 45 ?_; refine oz 19 46 ?_; refine oz 20 47 ?_; refine oz 21 48 ?_; refine oz 22 49 ?_; refine oz 23 50 ?_; refine pz 24 51 ?_
      refine dz ?_
      have hl2 := HL.out; subst hl2; clear HL E2 E3
      have M3 := M4; clear M4
      have z2 := M3.out.box (.tail _ (.tail _ (.tail _ (.tail _ (.head _))))); have z3 := M3.out.box (.tail _ (.tail _ (.tail _ (.head _)))); have z5 := M3.out.box (.tail _ (.head _)); have f5 := M3.out.free (.tail _ (.head _))
      go_upto_region 10 with fail
      have hlw : lo ≤ wd.heap.size := Nat.le_trans hhi (M3.out.fits _ (.head _)).2
      go_wp2_with (((with_reducible refine gate_builtin (b := .append) (xs := #[.tmp 58, .tmp 60]) rfl ?_); at_builtin; refine Aside0.out ?_))
      refine ⟨?_⟩
      refine Kd.R_append (Kd.int .i64) (w0 := wd) lo rfl (.tmp 58) (.tmp 60) 26 3 (.int .i64 0) 8 rfl Try.underlying26 info3 rfl (by decide) (by decide) (.slice X j y) (pre a.regs b.regs j) 0 [.int .i64 0] (fun k => lo ≤ k) (fun _ => False) ?aV ?aX rfl (fun _ h => h.elim) (fun k hk => Nat.le_trans hlw hk) (Kd.R_mono (M3.out.row (.head _)) (fun k hk => hk.1)) (Below.refl _ _) hlw (by rw [pre_len]; omega) ?_
      case aV => first | rfl | (go_simp; done) | (go_simp; rfl)
      case aX => first | rfl | (go_simp; done) | (go_simp; rfl)
      intro v9 w9 ho hb9 hg9 hat9; clear hg9 hat9
      rw [show pre a.regs b.regs j ++ [0] = pre a.regs b.regs (j + 1) from by rw [pre_step, HP.out]] at ho
      obtain ⟨A9, y9, hv9⟩ := Kd.R_slice ho; rw [pre_len] at hv9; subst hv9
      have M9 := Aside0.mk (Mem.grow M3.out (fun h hh => by have hL := HLO.out; simp only [List.mem_cons, List.not_mem_nil, or_false] at hh; rcases hh with rfl | rfl | rfl | rfl <;> (simp only [Hold.box]; omega)) hb9 ho)
      have hh9 : lo ≤ w9.heap.size := Nat.le_trans hlw hb9.size
      have z5 := M9.out.box (.tail _ (.head _)); have f5 := M9.out.free (.tail _ (.head _))
      have M10 := Aside0.mk (Mem.set (A := [_]) M9.out 1 (.slice A9 (j + 1) y9) rfl)
      clear ho hb9 M9 M3
      go_wp2
      go_roundw
      case measure => simp [intOf]; omega
      case rel => exact ⟨j + 1, w9.heap.size, A9, y9, by go_num, by omega, hh9, M10⟩
  · have HP := Aside0.mk (show (0 : Int) = alike a.regs b.regs j from (alike_out _ _ (by omega)).symm)
    obtain ⟨L, HL, ML⟩ := Mem.hide M3
    have E2 := Aside0.mk (show Hold.box w.heap.size #[.int .i64 a.acc, .slice AA a.regs.length cA] 31 ∈ L from HL.out ▸ (.tail _ (.tail _ (.tail _ (.tail _ (.head _)))))); have E3 := Aside0.mk (show Hold.box (w.heap.size + 1) #[.int .i64 b.acc, .slice AB b.regs.length cB] 31 ∈ L from HL.out ▸ (.tail _ (.tail _ (.tail _ (.head _)))))
    have M4 := Aside0.mk ML.out.drew
    clear M3 ML
    refine sz 25 (fun W => W.cell? ⟨w.heap.size, 1, none⟩ = some (.slice AA a.regs.length cA) ∧ W.cell? ⟨w.heap.size + 1, 1, none⟩ = some (.slice AB b.regs.length cB)) [] joinI_.tab8 joinI_.bits8 ⟨(M4.out.box E2.out 1).trans rfl, (M4.out.box E3.out 1).trans rfl⟩ (fun HT_ HW_ hHeld => ?_)
    generalize wr.drew = wd at M4 hHeld ⊢
    refine pz 0 27 ?_; refine pz 1 28 ?_; refine tz 2 29 ?_; refine pz 3 30 ?_; refine pz 4 31 ?_; refine pz 5 32 ?_; refine oz 6 33 ?_; refine oz 7 34 ?_; refine oz 8 35 ?_; refine oz 9 36 ?_; refine oz 10 37 ?_; refine pz 11 38 ?_; refine pz 12 39 ?_; refine oz 13 40 ?_; refine oz 14 41 ?_; refine oz 15 42 ?_; refine oz 16 43 ?_; refine oz 17 44 ?_; refine oz 18 45 ?_; refine oz 19 46 ?_; refine oz 20 47 ?_; refine oz 21 48 ?_; refine oz 22 49 ?_; refine oz 23 50 ?_; refine pz 24 51 ?_
    refine dz ?_
    have hl2 := HL.out; subst hl2; clear HL E2 E3
    have M3 := M4; clear M4
    have z2 := M3.out.box (.tail _ (.tail _ (.tail _ (.tail _ (.head _))))); have z3 := M3.out.box (.tail _ (.tail _ (.tail _ (.head _)))); have z5 := M3.out.box (.tail _ (.head _)); have f5 := M3.out.free (.tail _ (.head _))
    go_upto_region 10 with fail
    have hlw : lo ≤ wd.heap.size := Nat.le_trans hhi (M3.out.fits _ (.head _)).2
    go_wp2_with (((with_reducible refine gate_builtin (b := .append) (xs := #[.tmp 58, .tmp 60]) rfl ?_); at_builtin; refine Aside0.out ?_))
    refine ⟨?_⟩
    refine Kd.R_append (Kd.int .i64) (w0 := wd) lo rfl (.tmp 58) (.tmp 60) 26 3 (.int .i64 0) 8 rfl Try.underlying26 info3 rfl (by decide) (by decide) (.slice X j y) (pre a.regs b.regs j) 0 [.int .i64 0] (fun k => lo ≤ k) (fun _ => False) ?aV ?aX rfl (fun _ h => h.elim) (fun k hk => Nat.le_trans hlw hk) (Kd.R_mono (M3.out.row (.head _)) (fun k hk => hk.1)) (Below.refl _ _) hlw (by rw [pre_len]; omega) ?_
    case aV => first | rfl | (go_simp; done) | (go_simp; rfl)
    case aX => first | rfl | (go_simp; done) | (go_simp; rfl)
    intro v9 w9 ho hb9 hg9 hat9; clear hg9 hat9
    rw [show pre a.regs b.regs j ++ [0] = pre a.regs b.regs (j + 1) from by rw [pre_step, HP.out]] at ho
    obtain ⟨A9, y9, hv9⟩ := Kd.R_slice ho; rw [pre_len] at hv9; subst hv9
    have M9 := Aside0.mk (Mem.grow M3.out (fun h hh => by have hL := HLO.out; simp only [List.mem_cons, List.not_mem_nil, or_false] at hh; rcases hh with rfl | rfl | rfl | rfl <;> (simp only [Hold.box]; omega)) hb9 ho)
    have hh9 : lo ≤ w9.heap.size := Nat.le_trans hlw hb9.size
    have z5 := M9.out.box (.tail _ (.head _)); have f5 := M9.out.free (.tail _ (.head _))
    have M10 := Aside0.mk (Mem.set (A := [_]) M9.out 1 (.slice A9 (j + 1) y9) rfl)
    clear ho hb9 M9 M3
    go_wp2
    go_roundw
    case measure => simp [intOf]; omega
    case rel => exact ⟨j + 1, w9.heap.size, A9, y9, by go_num, by omega, hh9, M10⟩
end Go.Proofs.Ytcbaokflimdjnaa.PureJoin
end
section
namespace Go.Proofs.Ytcbaokflimdjnaa.QFnExactVerify
open Go.RowKit Go.Proofs.YtcbaokflimdjnaaW.PrintWords Go.Proofs.YtcbaokflimdjnaaW.PrintLast Go.Proofs.YtcbaokflimdjnaaW.PrintMore
attribute [local go_sem] max_two min_two max_three min_three max_four min_four run_field194_0 max2_mx min2_mn   -- for this text's walks alone
set_option linter.unusedVariables false
set_option linter.unusedSimpArgs false
mutual
def spec_l16Same.j0 : Nat → Bool → Int → List Int → Int → List Int → Option (Bool)
  | 0, _, _, _, _, _ => none
  | k + 1, x19, x316000, x316001, x317000, x317001 => if x19 = true then (some false) else (spec_l16Same.l0 k 0 x316000 x316001 x317000 x317001)
def spec_l16Same.l0 : Nat → Int → Int → List Int → Int → List Int → Option (Bool)
  | 0, _, _, _, _, _ => none
  | k + 1, x5, x316000, x316001, x317000, x317001 => if x5 < (x316001.length : Int) then (if 0 ≤ x5 then (if x5 < (x317001.length : Int) then (if (rd x316001 x5) = (rd x317001 x5) then (spec_l16Same.l0 k (wrap64 (x5 + 1)) x316000 x316001 x317000 x317001) else (some false)) else (none)) else (none)) else (some true)
end
def spec_l16Same.f (k : Nat) (a0_0 : Int) (l0_1 : List Int) (a1_0 : Int) (l1_1 : List Int) : Option (Bool) := if a0_0 = a1_0 then (spec_l16Same.j0 k ((l0_1.length : Int) != (l1_1.length : Int)) a0_0 l0_1 a1_0 l1_1) else (spec_l16Same.j0 k true a0_0 l0_1 a1_0 l1_1)
set_option maxHeartbeats 8000000 in
set_option maxRecDepth 100000 in
theorem spec_l16Same.calls (k : Nat) (a0_0 : Int) (A0_1 : Option Addr) (c0_1 : Nat) (l0_1 : List Int) (a1_0 : Int) (A1_1 : Option Addr) (c1_1 : Nat) (l1_1 : List Int) (r : Bool) (w : World) (hr0_1 : Kd.C (Kd.int .i64) w A0_1 l0_1.length l0_1) (hc0_1 : l0_1.length ≤ c0_1) (hr1_1 : Kd.C (Kd.int .i64) w A1_1 l1_1.length l1_1) (hc1_1 : l1_1.length ≤ c1_1) (h : spec_l16Same.f k a0_0 l0_1 a1_0 l1_1 = some r) :
    Calls Try.prog 143 #[.agg #[.int .i64 a0_0, .slice A0_1 l0_1.length c0_1], .agg #[.int .i64 a1_0, .slice A1_1 l1_1.length c1_1]] w fun e w' => e = .returned (.bool r) ∧ Below w.heap.size w w' := by
  have hu31 := Try.underlying31
  have HR0_1 := Aside0.mk hr0_1
  have HC0_1 := Aside0.mk hc0_1
  clear hr0_1 hc0_1
  have HR1_1 := Aside0.mk hr1_1
  have HC1_1 := Aside0.mk hc1_1
  clear hr1_1 hc1_1
  have HB := Aside0.mk (Below.refl w.heap.size w)
  have H : (if a0_0 = a1_0 then (spec_l16Same.j0 k ((l0_1.length : Int) != (l1_1.length : Int)) a0_0 l0_1 a1_0 l1_1) else (spec_l16Same.j0 k true a0_0 l0_1 a1_0 l1_1)) = some r := h
  clear h
  have HC3 := Aside0.mk H
  clear H
  go_enter Try.func143, Try.ntmps143
  go_upto_region 1 with (first | ((with_reducible refine gate_dst (N := 2) rfl ?_); (try (refine gate_guard (by rfl) ?_; dsimp only)); refine box_event ?hg (N := 2) ?hd (cs := #[.int .i64 a0_0, .slice A0_1 l0_1.length c0_1]) (t := 31) ?hr ?_; (case hd => rfl); (case hg => rfl); (case hr => first | (go_simp; done) | (go_simp; rfl)); intro gb315 hg w4 hbox hb; have n0_ := Aside0.mk (below_step (by repeat (first | (with_reducible first | exact HB.out | apply below_alloc | apply pw_below_drewN | apply below_drew1) | exact HB.out)) hb); have n1_ := Aside0.mk (hbox); have n2_ := Aside0.mk ((by rw [hg]; exact (below_size (by repeat (first | (with_reducible first | exact HB.out | apply below_alloc | apply pw_below_drewN | apply below_drew1) | exact HB.out))) : w.heap.size ≤ gb315)); have n3_ := Aside0.mk ((by rw [hg]; exact (below_size (by repeat (first | (with_reducible first | exact HB.out | apply below_alloc | apply pw_below_drewN | apply below_drew1) | exact HB.out))) : w.heap.size ≤ gb315)); clear HB; have HB := n0_; have BK315 := n1_; have GW315 := n2_; have GE315 := n3_; clear n0_ n1_ n2_ n3_; clear hb hbox hg) | ((with_reducible refine gate_dst (N := 3) rfl ?_); (try (refine gate_guard (by rfl) ?_; dsimp only)); refine box_event ?hg (N := 3) ?hd (cs := #[.int .i64 a1_0, .slice A1_1 l1_1.length c1_1]) (t := 31) ?hr ?_; (case hd => rfl); (case hg => rfl); (case hr => first | (go_simp; done) | (go_simp; rfl)); intro gb316 hg w5 hbox hb; have n0_ := Aside0.mk (blk_below (g := gb315) (o := .cells #[.int .i64 a0_0, .slice A0_1 l0_1.length c0_1] 31 (0, 0)) (by (with_reducible repeat (first | refine blk_drewN ?_ _ | refine blk_drew ?_ | refine blk_alloc ?_ _)); exact BK315.out) hb); have n1_ := Aside0.mk (below_step (by repeat (first | (with_reducible first | exact HB.out | apply below_alloc | apply pw_below_drewN | apply below_drew1 | refine below_set ?_ GE315.out) | exact HB.out)) hb); have n2_ := Aside0.mk (hbox); have n3_ := Aside0.mk ((by rw [hg]; exact (below_size (by repeat (first | (with_reducible first | exact HB.out | apply below_alloc | apply pw_below_drewN | apply below_drew1 | refine below_set ?_ GE315.out) | exact HB.out))) : w.heap.size ≤ gb316)); have n4_ := Aside0.mk ((by rw [hg]; exact (below_size (by repeat (first | (with_reducible first | exact HB.out | apply below_alloc | apply pw_below_drewN | apply below_drew1 | refine below_set ?_ GE315.out) | exact HB.out))) : w.heap.size ≤ gb316)); have n5_ := Aside0.mk ((by rw [hg]; exact Nat.ne_of_lt (blk_lt (g := gb315) (o := .cells #[.int .i64 a0_0, .slice A0_1 l0_1.length c0_1] 31 (0, 0)) (by (with_reducible repeat (first | refine blk_drewN ?_ _ | refine blk_drew ?_ | refine blk_alloc ?_ _)); exact BK315.out)) : gb315 ≠ gb316)); have n6_ := Aside0.mk ((by rw [hg]; exact Nat.ne_of_gt (blk_lt (g := gb315) (o := .cells #[.int .i64 a0_0, .slice A0_1 l0_1.length c0_1] 31 (0, 0)) (by (with_reducible repeat (first | refine blk_drewN ?_ _ | refine blk_drew ?_ | refine blk_alloc ?_ _)); exact BK315.out)) : gb316 ≠ gb315)); clear BK315; clear HB; have BK315 := n0_; have HB := n1_; have BK316 := n2_; have GW316 := n3_; have GE316 := n4_; have NB315_316 := n5_; have NB316_315 := n6_; clear n0_ n1_ n2_ n3_ n4_ n5_ n6_; clear hb hbox hg))
  repeat (go_quiet (first | ((with_reducible refine gate_dst (N := 2) rfl ?_); (try (refine gate_guard (by rfl) ?_; dsimp only)); refine box_event ?hg (N := 2) ?hd (cs := #[.int .i64 a0_0, .slice A0_1 l0_1.length c0_1]) (t := 31) ?hr ?_; (case hd => rfl); (case hg => rfl); (case hr => first | (go_simp; done) | (go_simp; rfl)); intro gb315 hg w4 hbox hb; have n0_ := Aside0.mk (below_step (by repeat (first | (with_reducible first | exact HB.out | apply below_alloc | apply pw_below_drewN | apply below_drew1) | exact HB.out)) hb); have n1_ := Aside0.mk (hbox); have n2_ := Aside0.mk ((by rw [hg]; exact (below_size (by repeat (first | (with_reducible first | exact HB.out | apply below_alloc | apply pw_below_drewN | apply below_drew1) | exact HB.out))) : w.heap.size ≤ gb315)); have n3_ := Aside0.mk ((by rw [hg]; exact (below_size (by repeat (first | (with_reducible first | exact HB.out | apply below_alloc | apply pw_below_drewN | apply below_drew1) | exact HB.out))) : w.heap.size ≤ gb315)); clear HB; have HB := n0_; have BK315 := n1_; have GW315 := n2_; have GE315 := n3_; clear n0_ n1_ n2_ n3_; clear hb hbox hg) | ((with_reducible refine gate_dst (N := 3) rfl ?_); (try (refine gate_guard (by rfl) ?_; dsimp only)); refine box_event ?hg (N := 3) ?hd (cs := #[.int .i64 a1_0, .slice A1_1 l1_1.length c1_1]) (t := 31) ?hr ?_; (case hd => rfl); (case hg => rfl); (case hr => first | (go_simp; done) | (go_simp; rfl)); intro gb316 hg w5 hbox hb; have n0_ := Aside0.mk (blk_below (g := gb315) (o := .cells #[.int .i64 a0_0, .slice A0_1 l0_1.length c0_1] 31 (0, 0)) (by (with_reducible repeat (first | refine blk_drewN ?_ _ | refine blk_drew ?_ | refine blk_alloc ?_ _)); exact BK315.out) hb); have n1_ := Aside0.mk (below_step (by repeat (first | (with_reducible first | exact HB.out | apply below_alloc | apply pw_below_drewN | apply below_drew1 | refine below_set ?_ GE315.out) | exact HB.out)) hb); have n2_ := Aside0.mk (hbox); have n3_ := Aside0.mk ((by rw [hg]; exact (below_size (by repeat (first | (with_reducible first | exact HB.out | apply below_alloc | apply pw_below_drewN | apply below_drew1 | refine below_set ?_ GE315.out) | exact HB.out))) : w.heap.size ≤ gb316)); have n4_ := Aside0.mk ((by rw [hg]; exact (below_size (by repeat (first | (with_reducible first | exact HB.out | apply below_alloc | apply pw_below_drewN | apply below_drew1 | refine below_set ?_ GE315.out) | exact HB.out))) : w.heap.size ≤ gb316)); have n5_ := Aside0.mk ((by rw [hg]; exact Nat.ne_of_lt (blk_lt (g := gb315) (o := .cells #[.int .i64 a0_0, .slice A0_1 l0_1.length c0_1] 31 (0, 0)) (by (with_reducible repeat (first | refine blk_drewN ?_ _ | refine blk_drew ?_ | refine blk_alloc ?_ _)); exact BK315.out)) : gb315 ≠ gb316)); have n6_ := Aside0.mk ((by rw [hg]; exact Nat.ne_of_gt (blk_lt (g := gb315) (o := .cells #[.int .i64 a0_0, .slice A0_1 l0_1.length c0_1] 31 (0, 0)) (by (with_reducible repeat (first | refine blk_drewN ?_ _ | refine blk_drew ?_ | refine blk_alloc ?_ _)); exact BK315.out)) : gb316 ≠ gb315)); clear BK315; clear HB; have BK315 := n0_; have HB := n1_; have BK316 := n2_; have GW316 := n3_; have GE316 := n4_; have NB315_316 := n5_; have NB316_315 := n6_; clear n0_ n1_ n2_ n3_ n4_ n5_ n6_; clear hb hbox hg)); go_upto_region 1 with (first | ((with_reducible refine gate_dst (N := 2) rfl ?_); (try (refine gate_guard (by rfl) ?_; dsimp only)); refine box_event ?hg (N := 2) ?hd (cs := #[.int .i64 a0_0, .slice A0_1 l0_1.length c0_1]) (t := 31) ?hr ?_; (case hd => rfl); (case hg => rfl); (case hr => first | (go_simp; done) | (go_simp; rfl)); intro gb315 hg w4 hbox hb; have n0_ := Aside0.mk (below_step (by repeat (first | (with_reducible first | exact HB.out | apply below_alloc | apply pw_below_drewN | apply below_drew1) | exact HB.out)) hb); have n1_ := Aside0.mk (hbox); have n2_ := Aside0.mk ((by rw [hg]; exact (below_size (by repeat (first | (with_reducible first | exact HB.out | apply below_alloc | apply pw_below_drewN | apply below_drew1) | exact HB.out))) : w.heap.size ≤ gb315)); have n3_ := Aside0.mk ((by rw [hg]; exact (below_size (by repeat (first | (with_reducible first | exact HB.out | apply below_alloc | apply pw_below_drewN | apply below_drew1) | exact HB.out))) : w.heap.size ≤ gb315)); clear HB; have HB := n0_; have BK315 := n1_; have GW315 := n2_; have GE315 := n3_; clear n0_ n1_ n2_ n3_; clear hb hbox hg) | ((with_reducible refine gate_dst (N := 3) rfl ?_); (try (refine gate_guard (by rfl) ?_; dsimp only)); refine box_event ?hg (N := 3) ?hd (cs := #[.int .i64 a1_0, .slice A1_1 l1_1.length c1_1]) (t := 31) ?hr ?_; (case hd => rfl); (case hg => rfl); (case hr => first | (go_simp; done) | (go_simp; rfl)); intro gb316 hg w5 hbox hb; have n0_ := Aside0.mk (blk_below (g := gb315) (o := .cells #[.int .i64 a0_0, .slice A0_1 l0_1.length c0_1] 31 (0, 0)) (by (with_reducible repeat (first | refine blk_drewN ?_ _ | refine blk_drew ?_ | refine blk_alloc ?_ _)); exact BK315.out) hb); have n1_ := Aside0.mk (below_step (by repeat (first | (with_reducible first | exact HB.out | apply below_alloc | apply pw_below_drewN | apply below_drew1 | refine below_set ?_ GE315.out) | exact HB.out)) hb); have n2_ := Aside0.mk (hbox); have n3_ := Aside0.mk ((by rw [hg]; exact (below_size (by repeat (first | (with_reducible first | exact HB.out | apply below_alloc | apply pw_below_drewN | apply below_drew1 | refine below_set ?_ GE315.out) | exact HB.out))) : w.heap.size ≤ gb316)); have n4_ := Aside0.mk ((by rw [hg]; exact (below_size (by repeat (first | (with_reducible first | exact HB.out | apply below_alloc | apply pw_below_drewN | apply below_drew1 | refine below_set ?_ GE315.out) | exact HB.out))) : w.heap.size ≤ gb316)); have n5_ := Aside0.mk ((by rw [hg]; exact Nat.ne_of_lt (blk_lt (g := gb315) (o := .cells #[.int .i64 a0_0, .slice A0_1 l0_1.length c0_1] 31 (0, 0)) (by (with_reducible repeat (first | refine blk_drewN ?_ _ | refine blk_drew ?_ | refine blk_alloc ?_ _)); exact BK315.out)) : gb315 ≠ gb316)); have n6_ := Aside0.mk ((by rw [hg]; exact Nat.ne_of_gt (blk_lt (g := gb315) (o := .cells #[.int .i64 a0_0, .slice A0_1 l0_1.length c0_1] 31 (0, 0)) (by (with_reducible repeat (first | refine blk_drewN ?_ _ | refine blk_drew ?_ | refine blk_alloc ?_ _)); exact BK315.out)) : gb316 ≠ gb315)); clear BK315; clear HB; have BK315 := n0_; have HB := n1_; have BK316 := n2_; have GW316 := n3_; have GE316 := n4_; have NB315_316 := n5_; have NB316_315 := n6_; clear n0_ n1_ n2_ n3_ n4_ n5_ n6_; clear hb hbox hg)))
  (try simp only [Act.put, List.setIfInBounds_toArray, List.set_cons_zero, List.set_cons_succ])
  go_cut [19] (fun v19 wc => ∃ (kq : Nat) (x19_2 : Bool), v19 = .bool x19_2 ∧ Aside0 (spec_l16Same.j0 kq x19_2 a0_0 l0_1 a1_0 l1_1 = some r) ∧ Aside0 (kq ≤ k) ∧ Aside0 (wc.heap[gb315]? = some (.cells #[.int .i64 a0_0, (.slice A0_1 l0_1.length c0_1)] 31 (0, 0))) ∧ Aside0 (wc.heap[gb316]? = some (.cells #[.int .i64 a1_0, (.slice A1_1 l1_1.length c1_1)] 31 (0, 0))) ∧ Aside0 (Below w.heap.size w wc))
  case first =>
    have H := HC3.out
    clear HC3
    by_cases c6 : a0_0 = a1_0
    · rw [if_pos c6] at H
      have c6b0 : (a0_0 == a1_0) = true := beq_iff_eq.mpr c6
      have c6b1 : (a0_0 != a1_0) = false := bne_eq_false_iff_eq.mpr c6
      clear c6
      (first | rw [c6b0] | (simp only [i64_w, i32_w]; rw [c6b0]) | skip)
      have H' := Aside0.mk H
      clear H
      have hnb7 := NB315_316.out
      have hnc7 := NB316_315.out
      have hcz8_0 : w5.cell? ⟨gb315, 0, none⟩ = some (.int .i64 a0_0) := (blk_cell BK315.out 0).trans rfl
      have hcz8_1 : w5.cell? ⟨gb315, 1, none⟩ = some (.slice A0_1 l0_1.length c0_1) := (blk_cell BK315.out 1).trans rfl
      have hfz8_0 := blk_frozen BK315.out 0
      have hfz8_1 := blk_frozen BK315.out 1
      have hcz9_0 : w5.cell? ⟨gb316, 0, none⟩ = some (.int .i64 a1_0) := (blk_cell BK316.out 0).trans rfl
      have hcz9_1 : w5.cell? ⟨gb316, 1, none⟩ = some (.slice A1_1 l1_1.length c1_1) := (blk_cell BK316.out 1).trans rfl
      have hfz9_0 := blk_frozen BK316.out 0
      have hfz9_1 := blk_frozen BK316.out 1
      go_wp2
      repeat (go_quiet (fail); try go_wp2)
      go_meet
      case rel => exact ⟨_, (((l0_1.length : Int) != (l1_1.length : Int))), (by first | rfl | (simp; done) | (simp [*]; done)), H', ⟨by first | omega | exact Nat.le_refl _⟩, ⟨by (with_reducible repeat (first | refine blk_drewN ?_ _ | refine blk_drew ?_ | refine blk_alloc ?_ _)); exact BK315.out⟩, ⟨by (with_reducible repeat (first | refine blk_drewN ?_ _ | refine blk_drew ?_ | refine blk_alloc ?_ _)); exact BK316.out⟩, ⟨by repeat (first | (with_reducible first | exact HB.out | apply below_alloc | apply pw_below_drewN | apply below_drew1 | refine below_set ?_ GE315.out | refine below_set ?_ GE316.out) | exact HB.out)⟩⟩
    · rw [if_neg c6] at H
      have c6b0 : (a0_0 == a1_0) = false := beq_eq_false_iff_ne.mpr c6
      have c6b1 : (a0_0 != a1_0) = true := bne_iff_ne.mpr c6
      (first | rw [c6b0] | (simp only [i64_w, i32_w]; rw [c6b0]) | skip)
      have H' := Aside0.mk H
      clear H
      have hnb10 := NB315_316.out
      have hnc10 := NB316_315.out
      have hcz11_0 : w5.cell? ⟨gb315, 0, none⟩ = some (.int .i64 a0_0) := (blk_cell BK315.out 0).trans rfl
      have hcz11_1 : w5.cell? ⟨gb315, 1, none⟩ = some (.slice A0_1 l0_1.length c0_1) := (blk_cell BK315.out 1).trans rfl
      have hfz11_0 := blk_frozen BK315.out 0
      have hfz11_1 := blk_frozen BK315.out 1
      have hcz12_0 : w5.cell? ⟨gb316, 0, none⟩ = some (.int .i64 a1_0) := (blk_cell BK316.out 0).trans rfl
      have hcz12_1 : w5.cell? ⟨gb316, 1, none⟩ = some (.slice A1_1 l1_1.length c1_1) := (blk_cell BK316.out 1).trans rfl
      have hfz12_0 := blk_frozen BK316.out 0
      have hfz12_1 := blk_frozen BK316.out 1
      go_wp2
      repeat (go_quiet (fail); try go_wp2)
      go_meet
      case rel => exact ⟨_, (true), (by first | rfl | (simp; done) | (simp [*]; done)), H', ⟨by first | omega | exact Nat.le_refl _⟩, ⟨by (with_reducible repeat (first | refine blk_drewN ?_ _ | refine blk_drew ?_ | refine blk_alloc ?_ _)); exact BK315.out⟩, ⟨by (with_reducible repeat (first | refine blk_drewN ?_ _ | refine blk_drew ?_ | refine blk_alloc ?_ _)); exact BK316.out⟩, ⟨by repeat (first | (with_reducible first | exact HB.out | apply below_alloc | apply pw_below_drewN | apply below_drew1 | refine below_set ?_ GE315.out | refine below_set ?_ GE316.out) | exact HB.out)⟩⟩
  case rest =>
    clear HC3
    try clear c1
    try clear p2
    try clear c6
    try clear c6b0
    try clear c6b1
    try clear c7
    try clear c10
    try clear hcz11_0
    try clear hcz11_1
    try clear hcz12_0
    try clear hcz12_1
    try clear hcz8_0
    try clear hcz8_1
    try clear hcz9_0
    try clear hcz9_1
    try clear hfz11_0
    try clear hfz11_1
    try clear hfz12_0
    try clear hfz12_1
    try clear hfz8_0
    try clear hfz8_1
    try clear hfz9_0
    try clear hfz9_1
    obtain ⟨kq, x19_2, rfl, HA, HJ2, BK315, BK316, HB⟩ := hcut
    cases kq with
    | zero => exact absurd HA.out (by simp [spec_l16Same.j0])
    | succ kj2 =>
      have H := HA.out
      clear HA
      simp only [spec_l16Same.j0] at H
      by_cases c13 : x19_2 = true
      · subst c13
        have H1 : (some false) = some r := by rw [if_pos rfl] at H; exact H
        clear H
        have H := H1
        clear H1
        obtain rfl := Option.some.inj H
        go_wp2
        repeat (go_quiet (fail); try go_wp2)
        go_ret
        exact ⟨by first | rfl | (simp; done) | (simp [errW_none, errW_some] <;> rfl) | (simp [*, errW_none, errW_some] <;> rfl) | (simp [bne, List.isEmpty_iff]; done) | (rw [Bool.eq_iff_iff]; simp), by repeat (first | (with_reducible first | exact HB.out | apply below_alloc | apply pw_below_drewN | apply below_drew1 | refine below_set ?_ GE315.out | refine below_set ?_ GE316.out) | exact HB.out)⟩
      · replace c13 := Bool.eq_false_iff.mpr c13
        subst c13
        have H1 : (spec_l16Same.l0 kj2 0 a0_0 l0_1 a1_0 l1_1) = some r := by rw [if_neg (show ¬ (false = true) by decide)] at H; exact H
        clear H
        have H := H1
        clear H1
        have H' := Aside0.mk H
        clear H
        go_wp2
        repeat (go_quiet (fail); try go_wp2)
        go_loopg [5] kj2 (fun kq v5 w' => ∃ (x5_2 : Int), v5 = .int .i64 x5_2 ∧ Aside0 (spec_l16Same.l0 kq x5_2 a0_0 l0_1 a1_0 l1_1 = some r) ∧ Aside0 (kq ≤ kj2) ∧ Aside0 (w'.heap[gb315]? = some (.cells #[.int .i64 a0_0, (.slice A0_1 l0_1.length c0_1)] 31 (0, 0))) ∧ Aside0 (w'.heap[gb316]? = some (.cells #[.int .i64 a1_0, (.slice A1_1 l1_1.length c1_1)] 31 (0, 0))) ∧ Aside0 (Below w.heap.size w w'))
        case atStart => exact ⟨(0), (by first | rfl | (simp; done) | (simp [*]; done)), H', ⟨Nat.le_refl _⟩, ⟨by (with_reducible repeat (first | refine blk_drewN ?_ _ | refine blk_drew ?_ | refine blk_alloc ?_ _)); exact BK315.out⟩, ⟨by (with_reducible repeat (first | refine blk_drewN ?_ _ | refine blk_drew ?_ | refine blk_alloc ?_ _)); exact BK316.out⟩, ⟨by repeat (first | (with_reducible first | exact HB.out | apply below_alloc | apply pw_below_drewN | apply below_drew1 | refine below_set ?_ GE315.out | refine below_set ?_ GE316.out) | exact HB.out)⟩⟩
        case round =>
          clear H'
          try clear c1
          try clear p2
          try clear c6
          try clear c6b0
          try clear c6b1
          try clear c7
          try clear c10
          try clear c13
          try clear hcz11_0
          try clear hcz11_1
          try clear hcz12_0
          try clear hcz12_1
          try clear hcz8_0
          try clear hcz8_1
          try clear hcz9_0
          try clear hcz9_1
          try clear hfz11_0
          try clear hfz11_1
          try clear hfz12_0
          try clear hfz12_1
          try clear hfz8_0
          try clear hfz8_1
          try clear hfz9_0
          try clear hfz9_1
          try clear p2
          obtain ⟨x5_2, rfl, HA, HK2, BK315, BK316, HB⟩ := hrel
          cases gk with
          | zero => exact absurd HA.out (by simp [spec_l16Same.l0])
          | succ k2 =>
            have H := HA.out
            clear HA
            simp only [spec_l16Same.l0] at H
            by_cases c14 : x5_2 < (l0_1.length : Int)
            · rw [if_pos c14] at H
              have c14b0 : decide (x5_2 < (l0_1.length : Int)) = true := decide_eq_true c14
              clear c14
              by_cases c15 : 0 ≤ x5_2
              · rw [if_pos c15] at H
                have c15b0 : decide (0 ≤ x5_2) = true := decide_eq_true c15
                clear c15
                by_cases c16 : x5_2 < (l1_1.length : Int)
                · rw [if_pos c16] at H
                  have c16b0 : decide (x5_2 < (l1_1.length : Int)) = true := decide_eq_true c16
                  clear c16
                  by_cases c17 : (rd l0_1 x5_2) = (rd l1_1 x5_2)
                  · rw [if_pos c17] at H
                    have c17b0 : ((rd l0_1 x5_2) == (rd l1_1 x5_2)) = true := beq_iff_eq.mpr c17
                    have c17b1 : ((rd l0_1 x5_2) != (rd l1_1 x5_2)) = false := bne_eq_false_iff_eq.mpr c17
                    clear c17
                    have H' := Aside0.mk H
                    clear H
                    have hnb18 := NB315_316.out
                    have hnc18 := NB316_315.out
                    have hcz19_0 : wr.cell? ⟨gb315, 0, none⟩ = some (.int .i64 a0_0) := (blk_cell BK315.out 0).trans rfl
                    have hcz19_1 : wr.cell? ⟨gb315, 1, none⟩ = some (.slice A0_1 l0_1.length c0_1) := (blk_cell BK315.out 1).trans rfl
                    have hfz19_0 := blk_frozen BK315.out 0
                    have hfz19_1 := blk_frozen BK315.out 1
                    have p317 : 0 ≤ (x5_2 : Int) := of_decide_eq_true (by first | (with_reducible assumption) | assumption)
                    have q317 : x5_2 < (l0_1.length : Int) := of_decide_eq_true (by first | (with_reducible assumption) | assumption)
                    obtain ⟨ad317, e317, hx317_0⟩ := Kd.at_int HR0_1.out x5_2 p317 q317
                    cases e317
                    replace hx317_0 := (HB.out.cell (World.block_lt_of_cell? w _ hx317_0)).trans hx317_0
                    replace p317 := eq_true p317
                    replace q317 := eq_true q317
                    have hcz20_0 : wr.cell? ⟨gb316, 0, none⟩ = some (.int .i64 a1_0) := (blk_cell BK316.out 0).trans rfl
                    have hcz20_1 : wr.cell? ⟨gb316, 1, none⟩ = some (.slice A1_1 l1_1.length c1_1) := (blk_cell BK316.out 1).trans rfl
                    have hfz20_0 := blk_frozen BK316.out 0
                    have hfz20_1 := blk_frozen BK316.out 1
                    have p318 : 0 ≤ (x5_2 : Int) := of_decide_eq_true (by first | (with_reducible assumption) | assumption)
                    have q318 : x5_2 < (l1_1.length : Int) := of_decide_eq_true (by first | (with_reducible assumption) | assumption)
                    obtain ⟨ad318, e318, hx318_0⟩ := Kd.at_int HR1_1.out x5_2 p318 q318
                    cases e318
                    replace hx318_0 := (HB.out.cell (World.block_lt_of_cell? w _ hx318_0)).trans hx318_0
                    replace p318 := eq_true p318
                    replace q318 := eq_true q318
                    go_wp2
                    repeat (go_quiet (fail); try go_wp2)
                    go_roundg k2
                    case measure => have := HJ2.out; have := HK2.out; omega
                    case rel => exact ⟨(wrap64 (x5_2 + 1)), (by first | rfl | (simp; done) | (simp [*]; done)), H', ⟨by have := HJ2.out; have := HK2.out; omega⟩, ⟨by (with_reducible repeat (first | refine blk_drewN ?_ _ | refine blk_drew ?_ | refine blk_alloc ?_ _)); exact BK315.out⟩, ⟨by (with_reducible repeat (first | refine blk_drewN ?_ _ | refine blk_drew ?_ | refine blk_alloc ?_ _)); exact BK316.out⟩, ⟨by repeat (first | (with_reducible first | exact HB.out | apply below_alloc | apply pw_below_drewN | apply below_drew1 | refine below_set ?_ GE315.out | refine below_set ?_ GE316.out) | exact HB.out)⟩⟩
                  · rw [if_neg c17] at H
                    have c17b0 : ((rd l0_1 x5_2) == (rd l1_1 x5_2)) = false := beq_eq_false_iff_ne.mpr c17
                    have c17b1 : ((rd l0_1 x5_2) != (rd l1_1 x5_2)) = true := bne_iff_ne.mpr c17
                    obtain rfl := Option.some.inj H
                    have hnb21 := NB315_316.out
                    have hnc21 := NB316_315.out
                    have hcz22_0 : wr.cell? ⟨gb315, 0, none⟩ = some (.int .i64 a0_0) := (blk_cell BK315.out 0).trans rfl
                    have hcz22_1 : wr.cell? ⟨gb315, 1, none⟩ = some (.slice A0_1 l0_1.length c0_1) := (blk_cell BK315.out 1).trans rfl
                    have hfz22_0 := blk_frozen BK315.out 0
                    have hfz22_1 := blk_frozen BK315.out 1
                    have p317 : 0 ≤ (x5_2 : Int) := of_decide_eq_true (by first | (with_reducible assumption) | assumption)
                    have q317 : x5_2 < (l0_1.length : Int) := of_decide_eq_true (by first | (with_reducible assumption) | assumption)
                    obtain ⟨ad317, e317, hx317_0⟩ := Kd.at_int HR0_1.out x5_2 p317 q317
                    cases e317
                    replace hx317_0 := (HB.out.cell (World.block_lt_of_cell? w _ hx317_0)).trans hx317_0
                    replace p317 := eq_true p317
                    replace q317 := eq_true q317
                    have hcz23_0 : wr.cell? ⟨gb316, 0, none⟩ = some (.int .i64 a1_0) := (blk_cell BK316.out 0).trans rfl
                    have hcz23_1 : wr.cell? ⟨gb316, 1, none⟩ = some (.slice A1_1 l1_1.length c1_1) := (blk_cell BK316.out 1).trans rfl
                    have hfz23_0 := blk_frozen BK316.out 0
                    have hfz23_1 := blk_frozen BK316.out 1
                    have p318 : 0 ≤ (x5_2 : Int) := of_decide_eq_true (by first | (with_reducible assumption) | assumption)
                    have q318 : x5_2 < (l1_1.length : Int) := of_decide_eq_true (by first | (with_reducible assumption) | assumption)
                    obtain ⟨ad318, e318, hx318_0⟩ := Kd.at_int HR1_1.out x5_2 p318 q318
                    cases e318
                    replace hx318_0 := (HB.out.cell (World.block_lt_of_cell? w _ hx318_0)).trans hx318_0
                    replace p318 := eq_true p318
                    replace q318 := eq_true q318
                    go_wp2
                    repeat (go_quiet (fail); try go_wp2)
                    go_ret
                    exact ⟨by first | rfl | (simp; done) | (simp [errW_none, errW_some] <;> rfl) | (simp [*, errW_none, errW_some] <;> rfl) | (simp [bne, List.isEmpty_iff]; done) | (rw [Bool.eq_iff_iff]; simp), by repeat (first | (with_reducible first | exact HB.out | apply below_alloc | apply pw_below_drewN | apply below_drew1 | refine below_set ?_ GE315.out | refine below_set ?_ GE316.out) | exact HB.out)⟩
                · rw [if_neg c16] at H
                  exact absurd H (by simp)
              · rw [if_neg c15] at H
                exact absurd H (by simp)
            · rw [if_neg c14] at H
              have c14b0 : decide (x5_2 < (l0_1.length : Int)) = false := decide_eq_false c14
              clear c14
              obtain rfl := Option.some.inj H
              have hnb24 := NB315_316.out
              have hnc24 := NB316_315.out
              have hcz25_0 : wr.cell? ⟨gb315, 0, none⟩ = some (.int .i64 a0_0) := (blk_cell BK315.out 0).trans rfl
              have hcz25_1 : wr.cell? ⟨gb315, 1, none⟩ = some (.slice A0_1 l0_1.length c0_1) := (blk_cell BK315.out 1).trans rfl
              have hfz25_0 := blk_frozen BK315.out 0
              have hfz25_1 := blk_frozen BK315.out 1
              go_wp2
              repeat (go_quiet (fail); try go_wp2)
              go_ret
              exact ⟨by first | rfl | (simp; done) | (simp [errW_none, errW_some] <;> rfl) | (simp [*, errW_none, errW_some] <;> rfl) | (simp [bne, List.isEmpty_iff]; done) | (rw [Bool.eq_iff_iff]; simp), by repeat (first | (with_reducible first | exact HB.out | apply below_alloc | apply pw_below_drewN | apply below_drew1 | refine below_set ?_ GE315.out | refine below_set ?_ GE316.out) | exact HB.out)⟩
-- NOT PRINTED: function 110 (spec_l16Flow)
-- NOT PRINTED: function 66 (spec_l16States)
-- NOT PRINTED: function 23 (spec_Verify)
def impl_within.f (a0 : Int) (a1 : Int) (a2 : Int) : Option (Bool) := if a0 ≥ a1 then (some (decide (a0 ≤ a2))) else (some false)
set_option maxHeartbeats 8000000 in
set_option maxRecDepth 100000 in
theorem impl_within.calls (a0 : Int) (a1 : Int) (a2 : Int) (r : Bool) (w : World) (h : impl_within.f a0 a1 a2 = some r) :
    Calls Try.prog 60 #[.int .i64 a0, .int .i64 a1, .int .i64 a2] w fun e w' => e = .returned (.bool r) ∧ Drawn0 w w' := by
  have H : (if a0 ≥ a1 then (some (decide (a0 ≤ a2))) else (some false)) = some r := h
  clear h
  by_cases c4 : a0 ≥ a1
  · rw [if_pos c4] at H
    have c4b0 : decide (a1 ≤ a0) = true := decide_eq_true c4
    clear c4
    obtain rfl := Option.some.inj H
    go_enter Try.func60, Try.ntmps60
    go_wp2
    go_ret
    exact ⟨by first | rfl | (simp; done) | (simp [*]; done), by repeat (first | exact Drawn0.refl _ | apply Drawn0.step)⟩
  · rw [if_neg c4] at H
    have c4b0 : decide (a1 ≤ a0) = false := decide_eq_false c4
    clear c4
    obtain rfl := Option.some.inj H
    go_enter Try.func60, Try.ntmps60
    go_wp2
    go_ret
    exact ⟨by first | rfl | (simp; done) | (simp [*]; done), by repeat (first | exact Drawn0.refl _ | apply Drawn0.step)⟩
def impl_isNaN.f (a0 : Int) : Option (Bool) := some (decide ((Go.bits .and .u64 a0 9223372036854775807) > 9218868437227405312))
set_option maxHeartbeats 8000000 in
set_option maxRecDepth 100000 in
theorem impl_isNaN.calls (a0 : Int) (r : Bool) (w : World) (h : impl_isNaN.f a0 = some r) :
    Calls Try.prog 135 #[.int .u64 a0] w fun e w' => e = .returned (.bool r) ∧ Drawn0 w w' := by
  have H : (some (decide ((Go.bits .and .u64 a0 9223372036854775807) > 9218868437227405312))) = some r := h
  clear h
  obtain rfl := Option.some.inj H
  go_enter Try.func135, Try.ntmps135
  go_wp2
  go_ret
  exact ⟨by first | rfl | (simp; done) | (simp [*]; done), by repeat (first | exact Drawn0.refl _ | apply Drawn0.step)⟩
def impl_ConstOk.f (a0_0 : Int) (a0_1 : Int) (a0_2 : ByteArray) : Option (Bool) := if a0_0 = 1 then ((impl_isNaN.f a0_1).bind fun t347 => (if t347 = true then (if a0_1 = 9221120237041090560 then (some (a0_2.toList == ([] : List UInt8))) else (some false)) else (some (a0_2.toList == ([] : List UInt8))))) else (if a0_0 = 2 then (if (a0_2.size : Int) ≤ 40 then (some (a0_1 == 0)) else (some false)) else (if a0_0 = 3 then (if a0_1 = 0 then (some (a0_2.toList == ([] : List UInt8))) else (some false)) else (if a0_0 = 4 then (if a0_1 = 0 then (some (a0_2.toList == ([] : List UInt8))) else (some false)) else (if a0_0 = 5 then (if a0_1 = 0 then (some (a0_2.toList == ([] : List UInt8))) else (some false)) else (some false)))))
set_option maxHeartbeats 8000000 in
set_option maxRecDepth 100000 in
theorem impl_ConstOk.calls (a0_0 : Int) (a0_1 : Int) (a0_2 : ByteArray) (r : Bool) (w : World) (h : impl_ConstOk.f a0_0 a0_1 a0_2 = some r) :
    Calls Try.prog 99 #[.agg #[.int .i64 a0_0, .int .u64 a0_1, .string a0_2]] w fun e w' => e = .returned (.bool r) ∧ Below w.heap.size w w' := by
  have hu100 := Try.underlying100
  have HB := Aside0.mk (Below.refl w.heap.size w)
  have H : (if a0_0 = 1 then ((impl_isNaN.f a0_1).bind fun t347 => (if t347 = true then (if a0_1 = 9221120237041090560 then (some (a0_2.toList == ([] : List UInt8))) else (some false)) else (some (a0_2.toList == ([] : List UInt8))))) else (if a0_0 = 2 then (if (a0_2.size : Int) ≤ 40 then (some (a0_1 == 0)) else (some false)) else (if a0_0 = 3 then (if a0_1 = 0 then (some (a0_2.toList == ([] : List UInt8))) else (some false)) else (if a0_0 = 4 then (if a0_1 = 0 then (some (a0_2.toList == ([] : List UInt8))) else (some false)) else (if a0_0 = 5 then (if a0_1 = 0 then (some (a0_2.toList == ([] : List UInt8))) else (some false)) else (some false)))))) = some r := h
  clear h
  by_cases c2 : a0_0 = 1
  · rw [if_pos c2] at H
    have c2b0 : (a0_0 == 1) = true := beq_iff_eq.mpr c2
    have c2b1 : (a0_0 != 1) = false := bne_eq_false_iff_eq.mpr c2
    clear c2
    replace H := Option.bind_eq_some_iff.mp H
    obtain ⟨t347, A30, H⟩ := H
    replace H : (if t347 = true then (if a0_1 = 9221120237041090560 then (some (a0_2.toList == ([] : List UInt8))) else (some false)) else (some (a0_2.toList == ([] : List UInt8)))) = some r := H
    have A3 := Aside0.mk A30
    clear A30
    by_cases c4 : t347 = true
    · subst c4
      have H1 : (if a0_1 = 9221120237041090560 then (some (a0_2.toList == ([] : List UInt8))) else (some false)) = some r := by rw [if_pos rfl] at H; exact H
      clear H
      have H := H1
      clear H1
      by_cases c5 : a0_1 = 9221120237041090560
      · rw [if_pos c5] at H
        have c5b0 : (a0_1 == 9221120237041090560) = true := beq_iff_eq.mpr c5
        have c5b1 : (a0_1 != 9221120237041090560) = false := bne_eq_false_iff_eq.mpr c5
        clear c5
        obtain rfl := Option.some.inj H
        go_enter Try.func99, Try.ntmps99
        go_wp2_with (first | ((with_reducible refine gate_dst (N := 1) rfl ?_); refine box_event ?hg (N := 1) ?hd (cs := #[.int .i64 a0_0, .int .u64 a0_1, .string a0_2]) (t := 100) ?hr ?_; (case hd => rfl); (case hg => rfl); (case hr => first | (go_simp; done) | (go_simp; rfl)); intro gb346 hg w6 hbox hb; have n0_ := Aside0.mk (below_step (by repeat (first | (with_reducible first | exact HB.out | apply below_alloc | apply pw_below_drewN | apply below_drew1) | exact HB.out)) hb); have n1_ := Aside0.mk (hbox); have n2_ := Aside0.mk ((by rw [hg]; exact (below_size (by repeat (first | (with_reducible first | exact HB.out | apply below_alloc | apply pw_below_drewN | apply below_drew1) | exact HB.out))) : w.heap.size ≤ gb346)); have n3_ := Aside0.mk ((by rw [hg]; exact (below_size (by repeat (first | (with_reducible first | exact HB.out | apply below_alloc | apply pw_below_drewN | apply below_drew1) | exact HB.out))) : w.heap.size ≤ gb346)); clear HB; have HB := n0_; have BK346 := n1_; have GW346 := n2_; have GE346 := n3_; clear n0_ n1_ n2_ n3_; clear hb hbox hg; have hcz7_0 : w6.cell? ⟨gb346, 0, none⟩ = some (.int .i64 a0_0) := (blk_cell BK346.out 0).trans rfl; have hcz7_1 : w6.cell? ⟨gb346, 1, none⟩ = some (.int .u64 a0_1) := (blk_cell BK346.out 1).trans rfl; have hcz7_2 : w6.cell? ⟨gb346, 2, none⟩ = some (.string a0_2) := (blk_cell BK346.out 2).trans rfl; have hfz7_0 := blk_frozen BK346.out 0; have hfz7_1 := blk_frozen BK346.out 1; have hfz7_2 := blk_frozen BK346.out 2) | ((with_reducible refine gate_callee (f := 135) rfl ?_); refine goesL_ (some 9) rfl rfl Try.func135 (by kernel_rfl) rfl #[.int .u64 a0_1] rfl (by (try simp only [List.map_toArray, List.map_cons, List.map_nil]); first | done | rfl | (simp only [List.length_drop, List.length_take]; rfl)) ?_; (with_reducible refine (impl_isNaN.calls a0_1 true _ A3.out).mono ?_); rintro e w' ⟨rfl, ⟨nd, rfl⟩⟩; refine ⟨_, rfl, ?_⟩))
        go_ret
        exact ⟨by first | rfl | (simp; done) | (simp [errW_none, errW_some] <;> rfl) | (simp [*, errW_none, errW_some] <;> rfl) | (simp [bne, List.isEmpty_iff]; done) | (rw [Bool.eq_iff_iff]; simp), by repeat (first | (with_reducible first | exact HB.out | apply below_alloc | apply pw_below_drewN | apply below_drew1 | refine below_set ?_ GE346.out) | exact HB.out)⟩
      · rw [if_neg c5] at H
        have c5b0 : (a0_1 == 9221120237041090560) = false := beq_eq_false_iff_ne.mpr c5
        have c5b1 : (a0_1 != 9221120237041090560) = true := bne_iff_ne.mpr c5
        obtain rfl := Option.some.inj H
        go_enter Try.func99, Try.ntmps99
        go_wp2_with (first | ((with_reducible refine gate_dst (N := 1) rfl ?_); refine box_event ?hg (N := 1) ?hd (cs := #[.int .i64 a0_0, .int .u64 a0_1, .string a0_2]) (t := 100) ?hr ?_; (case hd => rfl); (case hg => rfl); (case hr => first | (go_simp; done) | (go_simp; rfl)); intro gb346 hg w8 hbox hb; have n0_ := Aside0.mk (below_step (by repeat (first | (with_reducible first | exact HB.out | apply below_alloc | apply pw_below_drewN | apply below_drew1) | exact HB.out)) hb); have n1_ := Aside0.mk (hbox); have n2_ := Aside0.mk ((by rw [hg]; exact (below_size (by repeat (first | (with_reducible first | exact HB.out | apply below_alloc | apply pw_below_drewN | apply below_drew1) | exact HB.out))) : w.heap.size ≤ gb346)); have n3_ := Aside0.mk ((by rw [hg]; exact (below_size (by repeat (first | (with_reducible first | exact HB.out | apply below_alloc | apply pw_below_drewN | apply below_drew1) | exact HB.out))) : w.heap.size ≤ gb346)); clear HB; have HB := n0_; have BK346 := n1_; have GW346 := n2_; have GE346 := n3_; clear n0_ n1_ n2_ n3_; clear hb hbox hg; have hcz9_0 : w8.cell? ⟨gb346, 0, none⟩ = some (.int .i64 a0_0) := (blk_cell BK346.out 0).trans rfl; have hcz9_1 : w8.cell? ⟨gb346, 1, none⟩ = some (.int .u64 a0_1) := (blk_cell BK346.out 1).trans rfl; have hcz9_2 : w8.cell? ⟨gb346, 2, none⟩ = some (.string a0_2) := (blk_cell BK346.out 2).trans rfl; have hfz9_0 := blk_frozen BK346.out 0; have hfz9_1 := blk_frozen BK346.out 1; have hfz9_2 := blk_frozen BK346.out 2) | ((with_reducible refine gate_callee (f := 135) rfl ?_); refine goesL_ (some 9) rfl rfl Try.func135 (by kernel_rfl) rfl #[.int .u64 a0_1] rfl (by (try simp only [List.map_toArray, List.map_cons, List.map_nil]); first | done | rfl | (simp only [List.length_drop, List.length_take]; rfl)) ?_; (with_reducible refine (impl_isNaN.calls a0_1 true _ A3.out).mono ?_); rintro e w' ⟨rfl, ⟨nd, rfl⟩⟩; refine ⟨_, rfl, ?_⟩))
        go_ret
        exact ⟨by first | rfl | (simp; done) | (simp [errW_none, errW_some] <;> rfl) | (simp [*, errW_none, errW_some] <;> rfl) | (simp [bne, List.isEmpty_iff]; done) | (rw [Bool.eq_iff_iff]; simp), by repeat (first | (with_reducible first | exact HB.out | apply below_alloc | apply pw_below_drewN | apply below_drew1 | refine below_set ?_ GE346.out) | exact HB.out)⟩
    · replace c4 := Bool.eq_false_iff.mpr c4
      subst c4
      have H1 : (some (a0_2.toList == ([] : List UInt8))) = some r := by rw [if_neg (show ¬ (false = true) by decide)] at H; exact H
      clear H
      have H := H1
      clear H1
      obtain rfl := Option.some.inj H
      go_enter Try.func99, Try.ntmps99
      go_wp2_with (first | ((with_reducible refine gate_dst (N := 1) rfl ?_); refine box_event ?hg (N := 1) ?hd (cs := #[.int .i64 a0_0, .int .u64 a0_1, .string a0_2]) (t := 100) ?hr ?_; (case hd => rfl); (case hg => rfl); (case hr => first | (go_simp; done) | (go_simp; rfl)); intro gb346 hg w10 hbox hb; have n0_ := Aside0.mk (below_step (by repeat (first | (with_reducible first | exact HB.out | apply below_alloc | apply pw_below_drewN | apply below_drew1) | exact HB.out)) hb); have n1_ := Aside0.mk (hbox); have n2_ := Aside0.mk ((by rw [hg]; exact (below_size (by repeat (first | (with_reducible first | exact HB.out | apply below_alloc | apply pw_below_drewN | apply below_drew1) | exact HB.out))) : w.heap.size ≤ gb346)); have n3_ := Aside0.mk ((by rw [hg]; exact (below_size (by repeat (first | (with_reducible first | exact HB.out | apply below_alloc | apply pw_below_drewN | apply below_drew1) | exact HB.out))) : w.heap.size ≤ gb346)); clear HB; have HB := n0_; have BK346 := n1_; have GW346 := n2_; have GE346 := n3_; clear n0_ n1_ n2_ n3_; clear hb hbox hg; have hcz11_0 : w10.cell? ⟨gb346, 0, none⟩ = some (.int .i64 a0_0) := (blk_cell BK346.out 0).trans rfl; have hcz11_1 : w10.cell? ⟨gb346, 1, none⟩ = some (.int .u64 a0_1) := (blk_cell BK346.out 1).trans rfl; have hcz11_2 : w10.cell? ⟨gb346, 2, none⟩ = some (.string a0_2) := (blk_cell BK346.out 2).trans rfl; have hfz11_0 := blk_frozen BK346.out 0; have hfz11_1 := blk_frozen BK346.out 1; have hfz11_2 := blk_frozen BK346.out 2) | ((with_reducible refine gate_callee (f := 135) rfl ?_); refine goesL_ (some 9) rfl rfl Try.func135 (by kernel_rfl) rfl #[.int .u64 a0_1] rfl (by (try simp only [List.map_toArray, List.map_cons, List.map_nil]); first | done | rfl | (simp only [List.length_drop, List.length_take]; rfl)) ?_; (with_reducible refine (impl_isNaN.calls a0_1 false _ A3.out).mono ?_); rintro e w' ⟨rfl, ⟨nd, rfl⟩⟩; refine ⟨_, rfl, ?_⟩))
      go_ret
      exact ⟨by first | rfl | (simp; done) | (simp [errW_none, errW_some] <;> rfl) | (simp [*, errW_none, errW_some] <;> rfl) | (simp [bne, List.isEmpty_iff]; done) | (rw [Bool.eq_iff_iff]; simp), by repeat (first | (with_reducible first | exact HB.out | apply below_alloc | apply pw_below_drewN | apply below_drew1 | refine below_set ?_ GE346.out) | exact HB.out)⟩
  · rw [if_neg c2] at H
    have c2b0 : (a0_0 == 1) = false := beq_eq_false_iff_ne.mpr c2
    have c2b1 : (a0_0 != 1) = true := bne_iff_ne.mpr c2
    by_cases c12 : a0_0 = 2
    · rw [if_pos c12] at H
      have c12b0 : (a0_0 == 2) = true := beq_iff_eq.mpr c12
      have c12b1 : (a0_0 != 2) = false := bne_eq_false_iff_eq.mpr c12
      clear c12
      by_cases c13 : (a0_2.size : Int) ≤ 40
      · rw [if_pos c13] at H
        have c13b0 : decide ((a0_2.size : Int) ≤ 40) = true := decide_eq_true c13
        have c13b1 : decide (a0_2.size ≤ 40) = true := decide_eq_true (by omega)
        clear c13
        obtain rfl := Option.some.inj H
        go_enter Try.func99, Try.ntmps99
        go_wp2_with (first | ((with_reducible refine gate_dst (N := 1) rfl ?_); refine box_event ?hg (N := 1) ?hd (cs := #[.int .i64 a0_0, .int .u64 a0_1, .string a0_2]) (t := 100) ?hr ?_; (case hd => rfl); (case hg => rfl); (case hr => first | (go_simp; done) | (go_simp; rfl)); intro gb346 hg w14 hbox hb; have n0_ := Aside0.mk (below_step (by repeat (first | (with_reducible first | exact HB.out | apply below_alloc | apply pw_below_drewN | apply below_drew1) | exact HB.out)) hb); have n1_ := Aside0.mk (hbox); have n2_ := Aside0.mk ((by rw [hg]; exact (below_size (by repeat (first | (with_reducible first | exact HB.out | apply below_alloc | apply pw_below_drewN | apply below_drew1) | exact HB.out))) : w.heap.size ≤ gb346)); have n3_ := Aside0.mk ((by rw [hg]; exact (below_size (by repeat (first | (with_reducible first | exact HB.out | apply below_alloc | apply pw_below_drewN | apply below_drew1) | exact HB.out))) : w.heap.size ≤ gb346)); clear HB; have HB := n0_; have BK346 := n1_; have GW346 := n2_; have GE346 := n3_; clear n0_ n1_ n2_ n3_; clear hb hbox hg; have hcz15_0 : w14.cell? ⟨gb346, 0, none⟩ = some (.int .i64 a0_0) := (blk_cell BK346.out 0).trans rfl; have hcz15_1 : w14.cell? ⟨gb346, 1, none⟩ = some (.int .u64 a0_1) := (blk_cell BK346.out 1).trans rfl; have hcz15_2 : w14.cell? ⟨gb346, 2, none⟩ = some (.string a0_2) := (blk_cell BK346.out 2).trans rfl; have hfz15_0 := blk_frozen BK346.out 0; have hfz15_1 := blk_frozen BK346.out 1; have hfz15_2 := blk_frozen BK346.out 2))
        go_ret
        exact ⟨by first | rfl | (simp; done) | (simp [errW_none, errW_some] <;> rfl) | (simp [*, errW_none, errW_some] <;> rfl) | (simp [bne, List.isEmpty_iff]; done) | (rw [Bool.eq_iff_iff]; simp), by repeat (first | (with_reducible first | exact HB.out | apply below_alloc | apply pw_below_drewN | apply below_drew1 | refine below_set ?_ GE346.out) | exact HB.out)⟩
      · rw [if_neg c13] at H
        have c13b0 : decide ((a0_2.size : Int) ≤ 40) = false := decide_eq_false c13
        have c13b1 : decide (a0_2.size ≤ 40) = false := decide_eq_false (by omega)
        clear c13
        obtain rfl := Option.some.inj H
        go_enter Try.func99, Try.ntmps99
        go_wp2_with (first | ((with_reducible refine gate_dst (N := 1) rfl ?_); refine box_event ?hg (N := 1) ?hd (cs := #[.int .i64 a0_0, .int .u64 a0_1, .string a0_2]) (t := 100) ?hr ?_; (case hd => rfl); (case hg => rfl); (case hr => first | (go_simp; done) | (go_simp; rfl)); intro gb346 hg w16 hbox hb; have n0_ := Aside0.mk (below_step (by repeat (first | (with_reducible first | exact HB.out | apply below_alloc | apply pw_below_drewN | apply below_drew1) | exact HB.out)) hb); have n1_ := Aside0.mk (hbox); have n2_ := Aside0.mk ((by rw [hg]; exact (below_size (by repeat (first | (with_reducible first | exact HB.out | apply below_alloc | apply pw_below_drewN | apply below_drew1) | exact HB.out))) : w.heap.size ≤ gb346)); have n3_ := Aside0.mk ((by rw [hg]; exact (below_size (by repeat (first | (with_reducible first | exact HB.out | apply below_alloc | apply pw_below_drewN | apply below_drew1) | exact HB.out))) : w.heap.size ≤ gb346)); clear HB; have HB := n0_; have BK346 := n1_; have GW346 := n2_; have GE346 := n3_; clear n0_ n1_ n2_ n3_; clear hb hbox hg; have hcz17_0 : w16.cell? ⟨gb346, 0, none⟩ = some (.int .i64 a0_0) := (blk_cell BK346.out 0).trans rfl; have hcz17_1 : w16.cell? ⟨gb346, 1, none⟩ = some (.int .u64 a0_1) := (blk_cell BK346.out 1).trans rfl; have hcz17_2 : w16.cell? ⟨gb346, 2, none⟩ = some (.string a0_2) := (blk_cell BK346.out 2).trans rfl; have hfz17_0 := blk_frozen BK346.out 0; have hfz17_1 := blk_frozen BK346.out 1; have hfz17_2 := blk_frozen BK346.out 2))
        go_ret
        exact ⟨by first | rfl | (simp; done) | (simp [errW_none, errW_some] <;> rfl) | (simp [*, errW_none, errW_some] <;> rfl) | (simp [bne, List.isEmpty_iff]; done) | (rw [Bool.eq_iff_iff]; simp), by repeat (first | (with_reducible first | exact HB.out | apply below_alloc | apply pw_below_drewN | apply below_drew1 | refine below_set ?_ GE346.out) | exact HB.out)⟩
    · rw [if_neg c12] at H
      have c12b0 : (a0_0 == 2) = false := beq_eq_false_iff_ne.mpr c12
      have c12b1 : (a0_0 != 2) = true := bne_iff_ne.mpr c12
      by_cases c18 : a0_0 = 3
      · rw [if_pos c18] at H
        have c18b0 : (a0_0 == 3) = true := beq_iff_eq.mpr c18
        have c18b1 : (a0_0 != 3) = false := bne_eq_false_iff_eq.mpr c18
        clear c18
        by_cases c19 : a0_1 = 0
        · rw [if_pos c19] at H
          have c19b0 : (a0_1 == 0) = true := beq_iff_eq.mpr c19
          have c19b1 : (a0_1 != 0) = false := bne_eq_false_iff_eq.mpr c19
          clear c19
          obtain rfl := Option.some.inj H
          go_enter Try.func99, Try.ntmps99
          go_wp2_with (first | ((with_reducible refine gate_dst (N := 1) rfl ?_); refine box_event ?hg (N := 1) ?hd (cs := #[.int .i64 a0_0, .int .u64 a0_1, .string a0_2]) (t := 100) ?hr ?_; (case hd => rfl); (case hg => rfl); (case hr => first | (go_simp; done) | (go_simp; rfl)); intro gb346 hg w20 hbox hb; have n0_ := Aside0.mk (below_step (by repeat (first | (with_reducible first | exact HB.out | apply below_alloc | apply pw_below_drewN | apply below_drew1) | exact HB.out)) hb); have n1_ := Aside0.mk (hbox); have n2_ := Aside0.mk ((by rw [hg]; exact (below_size (by repeat (first | (with_reducible first | exact HB.out | apply below_alloc | apply pw_below_drewN | apply below_drew1) | exact HB.out))) : w.heap.size ≤ gb346)); have n3_ := Aside0.mk ((by rw [hg]; exact (below_size (by repeat (first | (with_reducible first | exact HB.out | apply below_alloc | apply pw_below_drewN | apply below_drew1) | exact HB.out))) : w.heap.size ≤ gb346)); clear HB; have HB := n0_; have BK346 := n1_; have GW346 := n2_; have GE346 := n3_; clear n0_ n1_ n2_ n3_; clear hb hbox hg; have hcz21_0 : w20.cell? ⟨gb346, 0, none⟩ = some (.int .i64 a0_0) := (blk_cell BK346.out 0).trans rfl; have hcz21_1 : w20.cell? ⟨gb346, 1, none⟩ = some (.int .u64 a0_1) := (blk_cell BK346.out 1).trans rfl; have hcz21_2 : w20.cell? ⟨gb346, 2, none⟩ = some (.string a0_2) := (blk_cell BK346.out 2).trans rfl; have hfz21_0 := blk_frozen BK346.out 0; have hfz21_1 := blk_frozen BK346.out 1; have hfz21_2 := blk_frozen BK346.out 2))
          go_ret
          exact ⟨by first | rfl | (simp; done) | (simp [errW_none, errW_some] <;> rfl) | (simp [*, errW_none, errW_some] <;> rfl) | (simp [bne, List.isEmpty_iff]; done) | (rw [Bool.eq_iff_iff]; simp), by repeat (first | (with_reducible first | exact HB.out | apply below_alloc | apply pw_below_drewN | apply below_drew1 | refine below_set ?_ GE346.out) | exact HB.out)⟩
        · rw [if_neg c19] at H
          have c19b0 : (a0_1 == 0) = false := beq_eq_false_iff_ne.mpr c19
          have c19b1 : (a0_1 != 0) = true := bne_iff_ne.mpr c19
          obtain rfl := Option.some.inj H
          go_enter Try.func99, Try.ntmps99
          go_wp2_with (first | ((with_reducible refine gate_dst (N := 1) rfl ?_); refine box_event ?hg (N := 1) ?hd (cs := #[.int .i64 a0_0, .int .u64 a0_1, .string a0_2]) (t := 100) ?hr ?_; (case hd => rfl); (case hg => rfl); (case hr => first | (go_simp; done) | (go_simp; rfl)); intro gb346 hg w22 hbox hb; have n0_ := Aside0.mk (below_step (by repeat (first | (with_reducible first | exact HB.out | apply below_alloc | apply pw_below_drewN | apply below_drew1) | exact HB.out)) hb); have n1_ := Aside0.mk (hbox); have n2_ := Aside0.mk ((by rw [hg]; exact (below_size (by repeat (first | (with_reducible first | exact HB.out | apply below_alloc | apply pw_below_drewN | apply below_drew1) | exact HB.out))) : w.heap.size ≤ gb346)); have n3_ := Aside0.mk ((by rw [hg]; exact (below_size (by repeat (first | (with_reducible first | exact HB.out | apply below_alloc | apply pw_below_drewN | apply below_drew1) | exact HB.out))) : w.heap.size ≤ gb346)); clear HB; have HB := n0_; have BK346 := n1_; have GW346 := n2_; have GE346 := n3_; clear n0_ n1_ n2_ n3_; clear hb hbox hg; have hcz23_0 : w22.cell? ⟨gb346, 0, none⟩ = some (.int .i64 a0_0) := (blk_cell BK346.out 0).trans rfl; have hcz23_1 : w22.cell? ⟨gb346, 1, none⟩ = some (.int .u64 a0_1) := (blk_cell BK346.out 1).trans rfl; have hcz23_2 : w22.cell? ⟨gb346, 2, none⟩ = some (.string a0_2) := (blk_cell BK346.out 2).trans rfl; have hfz23_0 := blk_frozen BK346.out 0; have hfz23_1 := blk_frozen BK346.out 1; have hfz23_2 := blk_frozen BK346.out 2))
          go_ret
          exact ⟨by first | rfl | (simp; done) | (simp [errW_none, errW_some] <;> rfl) | (simp [*, errW_none, errW_some] <;> rfl) | (simp [bne, List.isEmpty_iff]; done) | (rw [Bool.eq_iff_iff]; simp), by repeat (first | (with_reducible first | exact HB.out | apply below_alloc | apply pw_below_drewN | apply below_drew1 | refine below_set ?_ GE346.out) | exact HB.out)⟩
      · rw [if_neg c18] at H
        have c18b0 : (a0_0 == 3) = false := beq_eq_false_iff_ne.mpr c18
        have c18b1 : (a0_0 != 3) = true := bne_iff_ne.mpr c18
        by_cases c24 : a0_0 = 4
        · rw [if_pos c24] at H
          have c24b0 : (a0_0 == 4) = true := beq_iff_eq.mpr c24
          have c24b1 : (a0_0 != 4) = false := bne_eq_false_iff_eq.mpr c24
          clear c24
          by_cases c25 : a0_1 = 0
          · rw [if_pos c25] at H
            have c25b0 : (a0_1 == 0) = true := beq_iff_eq.mpr c25
            have c25b1 : (a0_1 != 0) = false := bne_eq_false_iff_eq.mpr c25
            clear c25
            obtain rfl := Option.some.inj H
            go_enter Try.func99, Try.ntmps99
            go_wp2_with (first | ((with_reducible refine gate_dst (N := 1) rfl ?_); refine box_event ?hg (N := 1) ?hd (cs := #[.int .i64 a0_0, .int .u64 a0_1, .string a0_2]) (t := 100) ?hr ?_; (case hd => rfl); (case hg => rfl); (case hr => first | (go_simp; done) | (go_simp; rfl)); intro gb346 hg w26 hbox hb; have n0_ := Aside0.mk (below_step (by repeat (first | (with_reducible first | exact HB.out | apply below_alloc | apply pw_below_drewN | apply below_drew1) | exact HB.out)) hb); have n1_ := Aside0.mk (hbox); have n2_ := Aside0.mk ((by rw [hg]; exact (below_size (by repeat (first | (with_reducible first | exact HB.out | apply below_alloc | apply pw_below_drewN | apply below_drew1) | exact HB.out))) : w.heap.size ≤ gb346)); have n3_ := Aside0.mk ((by rw [hg]; exact (below_size (by repeat (first | (with_reducible first | exact HB.out | apply below_alloc | apply pw_below_drewN | apply below_drew1) | exact HB.out))) : w.heap.size ≤ gb346)); clear HB; have HB := n0_; have BK346 := n1_; have GW346 := n2_; have GE346 := n3_; clear n0_ n1_ n2_ n3_; clear hb hbox hg; have hcz27_0 : w26.cell? ⟨gb346, 0, none⟩ = some (.int .i64 a0_0) := (blk_cell BK346.out 0).trans rfl; have hcz27_1 : w26.cell? ⟨gb346, 1, none⟩ = some (.int .u64 a0_1) := (blk_cell BK346.out 1).trans rfl; have hcz27_2 : w26.cell? ⟨gb346, 2, none⟩ = some (.string a0_2) := (blk_cell BK346.out 2).trans rfl; have hfz27_0 := blk_frozen BK346.out 0; have hfz27_1 := blk_frozen BK346.out 1; have hfz27_2 := blk_frozen BK346.out 2))
            go_ret
            exact ⟨by first | rfl | (simp; done) | (simp [errW_none, errW_some] <;> rfl) | (simp [*, errW_none, errW_some] <;> rfl) | (simp [bne, List.isEmpty_iff]; done) | (rw [Bool.eq_iff_iff]; simp), by repeat (first | (with_reducible first | exact HB.out | apply below_alloc | apply pw_below_drewN | apply below_drew1 | refine below_set ?_ GE346.out) | exact HB.out)⟩
          · rw [if_neg c25] at H
            have c25b0 : (a0_1 == 0) = false := beq_eq_false_iff_ne.mpr c25
            have c25b1 : (a0_1 != 0) = true := bne_iff_ne.mpr c25
            obtain rfl := Option.some.inj H
            go_enter Try.func99, Try.ntmps99
            go_wp2_with (first | ((with_reducible refine gate_dst (N := 1) rfl ?_); refine box_event ?hg (N := 1) ?hd (cs := #[.int .i64 a0_0, .int .u64 a0_1, .string a0_2]) (t := 100) ?hr ?_; (case hd => rfl); (case hg => rfl); (case hr => first | (go_simp; done) | (go_simp; rfl)); intro gb346 hg w28 hbox hb; have n0_ := Aside0.mk (below_step (by repeat (first | (with_reducible first | exact HB.out | apply below_alloc | apply pw_below_drewN | apply below_drew1) | exact HB.out)) hb); have n1_ := Aside0.mk (hbox); have n2_ := Aside0.mk ((by rw [hg]; exact (below_size (by repeat (first | (with_reducible first | exact HB.out | apply below_alloc | apply pw_below_drewN | apply below_drew1) | exact HB.out))) : w.heap.size ≤ gb346)); have n3_ := Aside0.mk ((by rw [hg]; exact (below_size (by repeat (first | (with_reducible first | exact HB.out | apply below_alloc | apply pw_below_drewN | apply below_drew1) | exact HB.out))) : w.heap.size ≤ gb346)); clear HB; have HB := n0_; have BK346 := n1_; have GW346 := n2_; have GE346 := n3_; clear n0_ n1_ n2_ n3_; clear hb hbox hg; have hcz29_0 : w28.cell? ⟨gb346, 0, none⟩ = some (.int .i64 a0_0) := (blk_cell BK346.out 0).trans rfl; have hcz29_1 : w28.cell? ⟨gb346, 1, none⟩ = some (.int .u64 a0_1) := (blk_cell BK346.out 1).trans rfl; have hcz29_2 : w28.cell? ⟨gb346, 2, none⟩ = some (.string a0_2) := (blk_cell BK346.out 2).trans rfl; have hfz29_0 := blk_frozen BK346.out 0; have hfz29_1 := blk_frozen BK346.out 1; have hfz29_2 := blk_frozen BK346.out 2))
            go_ret
            exact ⟨by first | rfl | (simp; done) | (simp [errW_none, errW_some] <;> rfl) | (simp [*, errW_none, errW_some] <;> rfl) | (simp [bne, List.isEmpty_iff]; done) | (rw [Bool.eq_iff_iff]; simp), by repeat (first | (with_reducible first | exact HB.out | apply below_alloc | apply pw_below_drewN | apply below_drew1 | refine below_set ?_ GE346.out) | exact HB.out)⟩
        · rw [if_neg c24] at H
          have c24b0 : (a0_0 == 4) = false := beq_eq_false_iff_ne.mpr c24
          have c24b1 : (a0_0 != 4) = true := bne_iff_ne.mpr c24
          by_cases c30 : a0_0 = 5
          · rw [if_pos c30] at H
            have c30b0 : (a0_0 == 5) = true := beq_iff_eq.mpr c30
            have c30b1 : (a0_0 != 5) = false := bne_eq_false_iff_eq.mpr c30
            clear c30
            by_cases c31 : a0_1 = 0
            · rw [if_pos c31] at H
              have c31b0 : (a0_1 == 0) = true := beq_iff_eq.mpr c31
              have c31b1 : (a0_1 != 0) = false := bne_eq_false_iff_eq.mpr c31
              clear c31
              obtain rfl := Option.some.inj H
              go_enter Try.func99, Try.ntmps99
              go_wp2_with (first | ((with_reducible refine gate_dst (N := 1) rfl ?_); refine box_event ?hg (N := 1) ?hd (cs := #[.int .i64 a0_0, .int .u64 a0_1, .string a0_2]) (t := 100) ?hr ?_; (case hd => rfl); (case hg => rfl); (case hr => first | (go_simp; done) | (go_simp; rfl)); intro gb346 hg w32 hbox hb; have n0_ := Aside0.mk (below_step (by repeat (first | (with_reducible first | exact HB.out | apply below_alloc | apply pw_below_drewN | apply below_drew1) | exact HB.out)) hb); have n1_ := Aside0.mk (hbox); have n2_ := Aside0.mk ((by rw [hg]; exact (below_size (by repeat (first | (with_reducible first | exact HB.out | apply below_alloc | apply pw_below_drewN | apply below_drew1) | exact HB.out))) : w.heap.size ≤ gb346)); have n3_ := Aside0.mk ((by rw [hg]; exact (below_size (by repeat (first | (with_reducible first | exact HB.out | apply below_alloc | apply pw_below_drewN | apply below_drew1) | exact HB.out))) : w.heap.size ≤ gb346)); clear HB; have HB := n0_; have BK346 := n1_; have GW346 := n2_; have GE346 := n3_; clear n0_ n1_ n2_ n3_; clear hb hbox hg; have hcz33_0 : w32.cell? ⟨gb346, 0, none⟩ = some (.int .i64 a0_0) := (blk_cell BK346.out 0).trans rfl; have hcz33_1 : w32.cell? ⟨gb346, 1, none⟩ = some (.int .u64 a0_1) := (blk_cell BK346.out 1).trans rfl; have hcz33_2 : w32.cell? ⟨gb346, 2, none⟩ = some (.string a0_2) := (blk_cell BK346.out 2).trans rfl; have hfz33_0 := blk_frozen BK346.out 0; have hfz33_1 := blk_frozen BK346.out 1; have hfz33_2 := blk_frozen BK346.out 2))
              go_ret
              exact ⟨by first | rfl | (simp; done) | (simp [errW_none, errW_some] <;> rfl) | (simp [*, errW_none, errW_some] <;> rfl) | (simp [bne, List.isEmpty_iff]; done) | (rw [Bool.eq_iff_iff]; simp), by repeat (first | (with_reducible first | exact HB.out | apply below_alloc | apply pw_below_drewN | apply below_drew1 | refine below_set ?_ GE346.out) | exact HB.out)⟩
            · rw [if_neg c31] at H
              have c31b0 : (a0_1 == 0) = false := beq_eq_false_iff_ne.mpr c31
              have c31b1 : (a0_1 != 0) = true := bne_iff_ne.mpr c31
              obtain rfl := Option.some.inj H
              go_enter Try.func99, Try.ntmps99
              go_wp2_with (first | ((with_reducible refine gate_dst (N := 1) rfl ?_); refine box_event ?hg (N := 1) ?hd (cs := #[.int .i64 a0_0, .int .u64 a0_1, .string a0_2]) (t := 100) ?hr ?_; (case hd => rfl); (case hg => rfl); (case hr => first | (go_simp; done) | (go_simp; rfl)); intro gb346 hg w34 hbox hb; have n0_ := Aside0.mk (below_step (by repeat (first | (with_reducible first | exact HB.out | apply below_alloc | apply pw_below_drewN | apply below_drew1) | exact HB.out)) hb); have n1_ := Aside0.mk (hbox); have n2_ := Aside0.mk ((by rw [hg]; exact (below_size (by repeat (first | (with_reducible first | exact HB.out | apply below_alloc | apply pw_below_drewN | apply below_drew1) | exact HB.out))) : w.heap.size ≤ gb346)); have n3_ := Aside0.mk ((by rw [hg]; exact (below_size (by repeat (first | (with_reducible first | exact HB.out | apply below_alloc | apply pw_below_drewN | apply below_drew1) | exact HB.out))) : w.heap.size ≤ gb346)); clear HB; have HB := n0_; have BK346 := n1_; have GW346 := n2_; have GE346 := n3_; clear n0_ n1_ n2_ n3_; clear hb hbox hg; have hcz35_0 : w34.cell? ⟨gb346, 0, none⟩ = some (.int .i64 a0_0) := (blk_cell BK346.out 0).trans rfl; have hcz35_1 : w34.cell? ⟨gb346, 1, none⟩ = some (.int .u64 a0_1) := (blk_cell BK346.out 1).trans rfl; have hcz35_2 : w34.cell? ⟨gb346, 2, none⟩ = some (.string a0_2) := (blk_cell BK346.out 2).trans rfl; have hfz35_0 := blk_frozen BK346.out 0; have hfz35_1 := blk_frozen BK346.out 1; have hfz35_2 := blk_frozen BK346.out 2))
              go_ret
              exact ⟨by first | rfl | (simp; done) | (simp [errW_none, errW_some] <;> rfl) | (simp [*, errW_none, errW_some] <;> rfl) | (simp [bne, List.isEmpty_iff]; done) | (rw [Bool.eq_iff_iff]; simp), by repeat (first | (with_reducible first | exact HB.out | apply below_alloc | apply pw_below_drewN | apply below_drew1 | refine below_set ?_ GE346.out) | exact HB.out)⟩
          · rw [if_neg c30] at H
            have c30b0 : (a0_0 == 5) = false := beq_eq_false_iff_ne.mpr c30
            have c30b1 : (a0_0 != 5) = true := bne_iff_ne.mpr c30
            obtain rfl := Option.some.inj H
            go_enter Try.func99, Try.ntmps99
            go_wp2_with (first | ((with_reducible refine gate_dst (N := 1) rfl ?_); refine box_event ?hg (N := 1) ?hd (cs := #[.int .i64 a0_0, .int .u64 a0_1, .string a0_2]) (t := 100) ?hr ?_; (case hd => rfl); (case hg => rfl); (case hr => first | (go_simp; done) | (go_simp; rfl)); intro gb346 hg w36 hbox hb; have n0_ := Aside0.mk (below_step (by repeat (first | (with_reducible first | exact HB.out | apply below_alloc | apply pw_below_drewN | apply below_drew1) | exact HB.out)) hb); have n1_ := Aside0.mk (hbox); have n2_ := Aside0.mk ((by rw [hg]; exact (below_size (by repeat (first | (with_reducible first | exact HB.out | apply below_alloc | apply pw_below_drewN | apply below_drew1) | exact HB.out))) : w.heap.size ≤ gb346)); have n3_ := Aside0.mk ((by rw [hg]; exact (below_size (by repeat (first | (with_reducible first | exact HB.out | apply below_alloc | apply pw_below_drewN | apply below_drew1) | exact HB.out))) : w.heap.size ≤ gb346)); clear HB; have HB := n0_; have BK346 := n1_; have GW346 := n2_; have GE346 := n3_; clear n0_ n1_ n2_ n3_; clear hb hbox hg; have hcz37_0 : w36.cell? ⟨gb346, 0, none⟩ = some (.int .i64 a0_0) := (blk_cell BK346.out 0).trans rfl; have hcz37_1 : w36.cell? ⟨gb346, 1, none⟩ = some (.int .u64 a0_1) := (blk_cell BK346.out 1).trans rfl; have hcz37_2 : w36.cell? ⟨gb346, 2, none⟩ = some (.string a0_2) := (blk_cell BK346.out 2).trans rfl; have hfz37_0 := blk_frozen BK346.out 0; have hfz37_1 := blk_frozen BK346.out 1; have hfz37_2 := blk_frozen BK346.out 2))
            go_ret
            exact ⟨by first | rfl | (simp; done) | (simp [errW_none, errW_some] <;> rfl) | (simp [*, errW_none, errW_some] <;> rfl) | (simp [bne, List.isEmpty_iff]; done) | (rw [Bool.eq_iff_iff]; simp), by repeat (first | (with_reducible first | exact HB.out | apply below_alloc | apply pw_below_drewN | apply below_drew1 | refine below_set ?_ GE346.out) | exact HB.out)⟩
end Go.Proofs.Ytcbaokflimdjnaa.QFnExactVerify
end
section
namespace Go.Proofs.Ytcbaokflimdjnaa.QFnExactVerify
open Go.RowKit Go.Proofs.YtcbaokflimdjnaaW.PrintWords Go.Proofs.YtcbaokflimdjnaaW.PrintLast Go.Proofs.YtcbaokflimdjnaaW.PrintMore
attribute [local go_sem] max_two min_two max_three min_three max_four min_four run_field194_0 max2_mx min2_mn   -- for this text's walks alone
set_option linter.unusedVariables false
set_option linter.unusedSimpArgs false
def spec_l01In.f (a0 : Int) (a1 : Int) (a2 : Int) : Option (Bool) := if a0 ≥ a1 then (some (decide (a0 ≤ a2))) else (some false)
set_option maxHeartbeats 8000000 in
set_option maxRecDepth 100000 in
theorem spec_l01In.calls (a0 : Int) (a1 : Int) (a2 : Int) (r : Bool) (w : World) (h : spec_l01In.f a0 a1 a2 = some r) :
    Calls Try.prog 53 #[.int .i64 a0, .int .i64 a1, .int .i64 a2] w fun e w' => e = .returned (.bool r) ∧ Drawn0 w w' := by
  have H : (if a0 ≥ a1 then (some (decide (a0 ≤ a2))) else (some false)) = some r := h
  clear h
  by_cases c4 : a0 ≥ a1
  · rw [if_pos c4] at H
    have c4b0 : decide (a1 ≤ a0) = true := decide_eq_true c4
    clear c4
    obtain rfl := Option.some.inj H
    go_enter Try.func53, Try.ntmps53
    go_wp2
    go_ret
    exact ⟨by first | rfl | (simp; done) | (simp [*]; done), by repeat (first | exact Drawn0.refl _ | apply Drawn0.step)⟩
  · rw [if_neg c4] at H
    have c4b0 : decide (a1 ≤ a0) = false := decide_eq_false c4
    clear c4
    obtain rfl := Option.some.inj H
    go_enter Try.func53, Try.ntmps53
    go_wp2
    go_ret
    exact ⟨by first | rfl | (simp; done) | (simp [*]; done), by repeat (first | exact Drawn0.refl _ | apply Drawn0.step)⟩
def spec_l03Pow.l0 : Nat → Int → Int → Int → Option (Int)
  | 0, _, _, _ => none
  | k + 1, x0, x3, x4 => if x4 < x0 then (spec_l03Pow.l0 k x0 (IntKind.u64.wrap (x3 * 2)) (wrap64 (x4 + 1))) else (some x3)
def spec_l03Pow.f (k : Nat) (a0 : Int) : Option (Int) := spec_l03Pow.l0 k a0 1 0
theorem spec_l03Pow.mono_l : ∀ k, (∀ y0 y1 y2, LeO (spec_l03Pow.l0 k y0 y1 y2) (spec_l03Pow.l0 (k + 1) y0 y1 y2))
  | 0 => fun _ _ _ r h => by simp [spec_l03Pow.l0] at h
  | k + 1 => by
    have ih0 := spec_l03Pow.mono_l k
    · intro y0 y1 y2
      unfold spec_l03Pow.l0
      repeat' first
      | (with_reducible exact ih0 _ _ _)
      | (with_reducible exact LeO.refl _)
      | (with_reducible exact LeO.none _)
      | (with_reducible refine LeO.ite ?_ ?_)
      | (with_reducible refine LeO.bind ?_ (fun _ => ?_))
      | exact ih0 _ _ _
      | exact LeO.none _
      | refine LeO.ite ?_ ?_
      | refine LeO.bind ?_ (fun _ => ?_)
theorem spec_l03Pow.mono : ∀ a0 k, LeO (spec_l03Pow.f k a0) (spec_l03Pow.f (k + 1) a0) := by
  intro a0 k
  have ih0 := spec_l03Pow.mono_l k
  unfold spec_l03Pow.f
  repeat' first
      | (with_reducible exact ih0 _ _ _)
      | (with_reducible exact LeO.refl _)
      | (with_reducible exact LeO.none _)
      | (with_reducible refine LeO.ite ?_ ?_)
      | (with_reducible refine LeO.bind ?_ (fun _ => ?_))
      | exact ih0 _ _ _
      | exact LeO.none _
      | refine LeO.ite ?_ ?_
      | refine LeO.bind ?_ (fun _ => ?_)
set_option maxHeartbeats 8000000 in
set_option maxRecDepth 100000 in
theorem spec_l03Pow.calls (k : Nat) (a0 : Int) (r : Int) (w : World) (h : spec_l03Pow.f k a0 = some r) :
    Calls Try.prog 174 #[.int .i64 a0] w fun e w' => e = .returned (.int .u64 r) ∧ Drawn0 w w' := by
  have H : (spec_l03Pow.l0 k a0 1 0) = some r := h
  clear h
  have H' := Aside0.mk H
  clear H
  go_enter Try.func174, Try.ntmps174
  go_wp2
  go_loopg [3, 4] k (fun kq v3 v4 w' => ∃ (x3_1 : Int) (x4_1 : Int), v3 = .int .u64 x3_1 ∧ v4 = .int .i64 x4_1 ∧ Aside0 (spec_l03Pow.l0 kq a0 x3_1 x4_1 = some r) ∧ Aside0 (kq ≤ k) ∧ Drawn0 w w')
  case atStart => exact ⟨(1), (0), (by first | rfl | (simp; done) | (simp [*]; done)), (by first | rfl | (simp; done) | (simp [*]; done)), H', ⟨Nat.le_refl _⟩, by repeat (first | exact Drawn0.refl _ | apply Drawn0.step)⟩
  case round =>
    clear H'
    try clear c1
    obtain ⟨x3_1, x4_1, rfl, rfl, HA, HK1, ⟨m1, rfl⟩⟩ := hrel
    cases gk with
    | zero => exact absurd HA.out (by simp [spec_l03Pow.l0])
    | succ k1 =>
      have H := HA.out
      clear HA
      simp only [spec_l03Pow.l0] at H
      by_cases c2 : x4_1 < a0
      · rw [if_pos c2] at H
        have c2b0 : decide (x4_1 < a0) = true := decide_eq_true c2
        clear c2
        have H' := Aside0.mk H
        clear H
        go_wp2
        go_roundg k1
        case measure => have := HK1.out; omega
        case rel => exact ⟨(IntKind.u64.wrap (x3_1 * 2)), (wrap64 (x4_1 + 1)), (by first | rfl | (simp; done) | (simp [*]; done)), (by first | rfl | (simp; done) | (simp [*]; done)), H', ⟨by have := HK1.out; omega⟩, by repeat (first | exact Drawn0.refl _ | apply Drawn0.step)⟩
      · rw [if_neg c2] at H
        have c2b0 : decide (x4_1 < a0) = false := decide_eq_false c2
        clear c2
        obtain rfl := Option.some.inj H
        go_wp2
        go_ret
        exact ⟨by first | rfl | (simp; done) | (simp [*]; done), by repeat (first | exact Drawn0.refl _ | apply Drawn0.step)⟩
end Go.Proofs.Ytcbaokflimdjnaa.QFnExactVerify
end
