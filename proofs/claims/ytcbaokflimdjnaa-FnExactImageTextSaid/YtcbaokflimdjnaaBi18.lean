/- Part 18 of the proof: general lemmas, contracts of functions, walks. No condition of its own. -/
import Derived.WalkKit
import Derived.KernelRfl
import Derived.Deep.LoopGhost
import Derived.Deep.QuietTactic
import Derived.BigQuiet
import Derived.RowKit3
import Derived.Deep.RegionWith
import Derived.Deep.RegionHeld3
import Derived.WalkLawsBesides
import Derived.Test.YtcbaokflimdjnaaBi17
import Derived.Test.YtcbaokflimdjnaaBi2
section
namespace Go.Proofs.Ytcbaokflimdjnaa.Law
open Go.RowKit Go.Proofs.YtcbaokflimdjnaaW.PrintWords Go.Proofs.YtcbaokflimdjnaaW.PrintLast Go.Proofs.Ytcbaokflimdjnaa.Steps Go.Proofs.YtcbaokflimdjnaaW.PrintMore Go.Proofs.Ytcbaokflimdjnaa.Num Go.Proofs.Ytcbaokflimdjnaa
set_option linter.unusedVariables false
set_option linter.unusedSimpArgs false
set_option autoImplicit false
def ibI.T6 : Bool × List (List Nat × List Nat) := (true, [([], []), ([], []), ([1], [1]), ([2], [2]), ([3], [3]), ([], []), ([5], [5]), ([6], [6]), ([7], [7]), ([4, 8], [4, 8]), ([0, 0, 1, 2, 3, 4, 5, 6, 7, 8, 9], [0]), ([10, 0, 1, 2, 3, 4, 5, 6, 7, 8, 9], [10]), ([11, 9, 9, 0, 1, 2, 3, 4, 5, 6, 7, 8, 9], [9, 11])])
def ibI.B6 : List Nat := [0, 0, 2, 6, 14, 0, 32, 96, 224, 510, 1023, 2047, 4095]
theorem ibI.tab6 : rtab .any (opsOf Try.f79 6) = ibI.T6 := by kernel_rfl
theorem ibI.bits6 : waitsOk ibI.T6.2 ibI.B6 = true := by kernel_rfl
def ibI.T12 : Bool × List (List Nat × List Nat) := (true, [([], []), ([], []), ([1], [1]), ([2], [2]), ([3], [3]), ([], []), ([5], [5]), ([], []), ([7], [7]), ([6, 8], [6, 8]), ([9], [9]), ([10], [10]), ([4, 11], [4, 11]), ([0, 0, 1, 2, 3, 4, 5, 6, 7, 8, 9, 10, 11, 12], [0]), ([13, 0, 1, 2, 3, 4, 5, 6, 7, 8, 9, 10, 11, 12], [13]), ([14, 12, 12, 0, 1, 2, 3, 4, 5, 6, 7, 8, 9, 10, 11, 12], [12, 14])])
def ibI.B12 : List Nat := [0, 0, 2, 6, 14, 0, 32, 0, 128, 480, 992, 2016, 4094, 8191, 16383, 32767]
theorem ibI.tab12 : rtab .any (opsOf Try.f79 12) = ibI.T12 := by kernel_rfl
theorem ibI.bits12 : waitsOk ibI.T12.2 ibI.B12 = true := by kernel_rfl
def ibI.T15 : Bool × List (List Nat × List Nat) := (true, [([], []), ([], []), ([1], [1]), ([2], [2]), ([3], [3]), ([], []), ([5], [5]), ([4, 6], [4, 6]), ([0, 0, 1, 2, 3, 4, 5, 6, 7], [0]), ([8, 0, 1, 2, 3, 4, 5, 6, 7], [8]), ([9, 7, 7, 0, 1, 2, 3, 4, 5, 6, 7], [7, 9])])
def ibI.B15 : List Nat := [0, 0, 2, 6, 14, 0, 32, 126, 255, 511, 1023]
theorem ibI.tab15 : rtab .any (opsOf Try.f79 15) = ibI.T15 := by kernel_rfl
theorem ibI.bits15 : waitsOk ibI.T15.2 ibI.B15 = true := by kernel_rfl
def ibI.T35 : Bool × List (List Nat × List Nat) := (true, [([], []), ([], []), ([1], [1]), ([2], [2]), ([3], [3]), ([], []), ([5], [5]), ([6], [6]), ([7], [7]), ([4, 8], [4, 8]), ([0, 0, 1, 2, 3, 4, 5, 6, 7, 8, 9], [0]), ([10, 0, 1, 2, 3, 4, 5, 6, 7, 8, 9], [10]), ([11, 9, 9, 0, 1, 2, 3, 4, 5, 6, 7, 8, 9], [9, 11])])
def ibI.B35 : List Nat := [0, 0, 2, 6, 14, 0, 32, 96, 224, 510, 1023, 2047, 4095]
theorem ibI.tab35 : rtab .any (opsOf Try.f79 35) = ibI.T35 := by kernel_rfl
theorem ibI.bits35 : waitsOk ibI.T35.2 ibI.B35 = true := by kernel_rfl
set_option maxHeartbeats 16000000 in
set_option maxRecDepth 100000 in
theorem cBytesI (x : Image) (A0 : Option Addr) (c0 : Nat) (A1 : Option Addr) (c1 : Nat) (w : World) (hi : imgB x = true) (l0 : x.funcs.length ≤ c0) (g0 : kFuncI.C w A0 x.funcs.length x.funcs) (l1 : x.consts.length ≤ c1) (g1 : kConst.C w A1 x.consts.length x.consts) (hn : ∀ y ∈ x.consts, 0 ≤ y.num ∧ y.num < 18446744073709551616) :
    Calls Try.prog 79 #[.agg #[.slice A0 x.funcs.length c0, .slice A1 x.consts.length c1]] w fun e w' => e = .returned (.string (strOfNums (imgL x))) ∧ Below w.heap.size w w' := by
  have hu0 := Try.underlying37; have hu1 := Try.underlying160; have hu2 := Try.underlying96; have hu3 := Try.underlying5; have hu4 := Try.underlying100; have hu5 := Try.underlying73; have hu6 := Try.underlying105; have hu7 := Try.underlying76; have hu8 := Try.underlying107; have hu9 := Try.underlying35; have hu10 := Try.underlying34; have hu11 := Try.underlying69; have hu12 := Try.underlying70; have hu13 := Try.underlying71; have hu14 := Try.underlying26; have hu15 := Try.underlying3; have hu16 := Try.underlying98; have hu17 := Try.underlying9
  have kc : (convert 96 96 (.slice (some ⟨w.heap.size + 1, 0, none⟩) 3 3)).run Try.prog ((w.alloc (.cells #[.slice A0 x.funcs.length c0, .slice A1 x.consts.length c1] 37)).alloc (.cells #[.int .u8 83, .int .u8 67, .int .u8 49] 5)) = .ok (.slice (some ⟨w.heap.size + 1, 0, none⟩) 3 3) ((w.alloc (.cells #[.slice A0 x.funcs.length c0, .slice A1 x.consts.length c1] 37)).alloc (.cells #[.int .u8 83, .int .u8 67, .int .u8 49] 5 (3, 4))) := by
    have h := Lib.run_convert_bytes_const (P := Try.prog) (w.alloc (.cells #[.slice A0 x.funcs.length c0, .slice A1 x.consts.length c1] 37)) 96 5 #[.int .u8 83, .int .u8 67, .int .u8 49] 3 3 Try.underlying96 Try.underlying5
    rw [show (w.alloc (.cells #[.slice A0 x.funcs.length c0, .slice A1 x.consts.length c1] 37)).heap.size = w.heap.size + 1 by simp] at h
    exact h
  have G0 := Aside0.mk g0; have G1 := Aside0.mk g1; have HN := Aside0.mk hn; have L0 := Aside0.mk l0; have L1 := Aside0.mk l1; have HI := Aside0.mk hi
  have hln := img_len hi
  clear g0 g1 hn l0 l1 hi
  have M0 := Aside0.mk ((Mem.start w).allocAt rfl #[.slice A0 x.funcs.length c0, .slice A1 x.consts.length c1] 37)
  have N1 := Aside0.mk (M0.out.convC [83, 67, 49] 5)
  have N2 : Aside0 (Mem w ((((w.alloc (.cells #[.slice A0 x.funcs.length c0, .slice A1 x.consts.length c1] 37)).alloc (.cells #[.int .u8 83, .int .u8 67, .int .u8 49] 5 (3, 4))).alloc (.cells #[.slice (some ⟨w.heap.size + 1, 0, none⟩) 3 3] 160))) [Hold.box (w.heap.size + 2) #[.slice (some ⟨w.heap.size + 1, 0, none⟩) ([83, 67, 49] : List Int).length 3] 160, Hold.bts (w.heap.size + 1) 3 [83, 67, 49], Hold.box w.heap.size #[.slice A0 x.funcs.length c0, .slice A1 x.consts.length c1] 37]) := by
    have h := N1.out.allocAt (g := w.heap.size + 2) (by simp) #[.slice (some ⟨w.heap.size + 1, 0, none⟩) 3 3] 160
    rw [show (w.alloc (.cells #[.slice A0 x.funcs.length c0, .slice A1 x.consts.length c1] 37)).heap.size = w.heap.size + 1 by simp] at h
    exact ⟨h⟩
  clear N1
  go_enter Try.func79, Try.ntmps79
  go_upto_region 2 with fail
  clear M0
  obtain ⟨gw, hgw⟩ : ∃ gw, gw = w.heap.size + 2 := ⟨_, rfl⟩
  rw [← hgw] at N2 ⊢
  generalize hW : ((w.alloc (.cells #[.slice A0 x.funcs.length c0, .slice A1 x.consts.length c1] 37)).alloc (.cells #[.int .u8 83, .int .u8 67, .int .u8 49] 5 (3, 4))).alloc (.cells #[.slice (some ⟨w.heap.size + 1, 0, none⟩) 3 3] 160) = W at N2 ⊢
  clear hW hgw kc
  have z0 := N2.out.box (.head _); have z1 := N2.out.box (.tail _ (.tail _ (.head _)))
  have hl0 : ([83, 67, 49] : List Int).length ≤ 1000000 := by simp
  go_wp2_with fail
  have M3 := Aside0.mk (N2.out.allocAt rfl #[.int .i64 (x.consts.length : Int)] 3)
  refine (cNumC [(x.consts.length : Int)] (by intro n hn; rw [List.mem_singleton.1 hn]; omega) (by simp) _ _ _ _ _ _ _ _ (imgL1 x) (by omega) rfl M3.out 1 1 rfl).mono ?_
  clear M3 N2
  rintro e w3 ⟨rfl, g, c, h⟩
  have M1 := Aside0.mk h; clear h
  clear z0 z1 hl0
  go_upto_region 3 with fail
  have z0 := M1.out.box (.tail _ (.tail _ (.head _)))
  go_upto_region 4 with fail
  clear z0
  go_loopw [29] (fun v wx => ∃ (k g c : Nat) (lk : List Int), v = .int .i64 k ∧ k ≤ x.consts.length ∧ Aside0 (lk = imgL1 x ++ flatTo constL x.consts k) ∧ Aside0 (Mem w wx [Hold.box gw #[.slice (some ⟨g, 0, none⟩) (lk).length c] 160, Hold.bts g c (lk), Hold.box w.heap.size #[.slice A0 x.funcs.length c0, .slice A1 x.consts.length c1] 37])) (fun v _ => x.consts.length - (intOf v).toNat)
  case atStart => exact ⟨0, g, c, imgL1 x, rfl, by omega, ⟨by rw [flatTo_zero, List.append_nil]⟩, M1⟩
  case round =>
  clear M1
  obtain ⟨k, g, c, lk, rfl, hk, HLK, M1⟩ := hrel
  have hlk : lk.length ≤ 2000 := by
    rw [HLK.out, List.length_append]
    have h1 := imgL1_len x
    have h2 := constTo_len HI.out k
    omega
  by_cases hlt : k < x.consts.length
  · skip
    have hle : (k : Int) < (x.consts.length : Int) := by omega
    have hk0 : (0 : Int) ≤ (k : Int) := by omega
    have HS := Aside0.mk (flatTo_succ zConst constL x.consts hlt)
    have hnum := HN.out _ (el_mem zConst hlt)
    have htx := img_const HI.out (el_mem zConst hlt)
    obtain ⟨ac, hac, _, y0, y1, y2⟩ := Const_at (Kd.C_below G1.out M1.out.below) k hlt
    subst hac
    obtain ⟨co, hco⟩ : ∃ co, co = el zConst x.consts k := ⟨_, rfl⟩
    rw [← hco] at HS hnum htx y0 y1 y2
    clear hco
    obtain ⟨gc, hgc⟩ : ∃ gc : Nat, gc = wr.heap.size := ⟨_, rfl⟩
    have M2 := Aside0.mk (M1.out.allocAt hgc #[.int .i64 co.kind, .int .u64 co.num, .string co.text] 100).rot
    go_upto_region 6 with fail
    rw [← hgc]
    clear y0 y1 y2 M1 hgc
    generalize wr.alloc (.cells #[.int .i64 co.kind, .int .u64 co.num, .string co.text] 100) = wa at M2 ⊢
    obtain ⟨lk2, hlk2⟩ : ∃ lk2, lk2 = lk ++ [co.kind % 256] := ⟨_, rfl⟩
    have HL2 := Aside0.mk hlk2; clear hlk2
    refine sz 13 (fun W => W.cell? ⟨gw, 0, none⟩ = some (.slice (some ⟨g, 0, none⟩) lk.length c) ∧ W.cell? ⟨gc, 0, none⟩ = some (.int .i64 co.kind)) [9, 12] ibI.tab6 ibI.bits6 ⟨(M2.out.drew.box (.head _) 0).trans rfl, (M2.out.drew.box (.tail _ (.tail _ (.head _))) 0).trans rfl⟩ (fun HT_ HW_ hHeld => ?_)
    have MD := Aside0.mk M2.out.drew
    clear M2
    generalize hwd : World.drew _ = wd at MD hHeld ⊢
    clear hwd
    refine pz 0 33 ?_; refine pz 1 34 ?_; refine pz 2 35 ?_; refine pz 3 36 ?_; refine pz 5 38 ?_; refine tz 4 37 ?_; refine tz 6 39 ?_; refine pz 7 40 ?_
    refine ez 8 (some 41) (fun K hK => ?_)
    refine value_ (w1 := ?_) (v := ?_) (by rfl) rfl ?_ ?_
    rotate_left 2
    · go_simp
      constructor
      · rfl
      · rfl
    refine hK.out _ _ ⟨((MD.out.step (below_alloc (Below.refl _ _) _)).box (.head _) 0).trans rfl, ((MD.out.step (below_alloc (Below.refl _ _) _)).box (.tail _ (.tail _ (.head _))) 0).trans rfl⟩ (fun hHeld => ?_); clear hK K; refine kz (some 41) ?_
    refine lz 9 (some 42) (fun K hK => ?_)
    have MA := Aside0.mk (MD.out.allocAt (g := wd.heap.size) rfl #[.int .u8 (co.kind % 256)] 5)
    refine bts_append_step (A := [_, _]) MA.out (by rfl) (.tmp 37) (.tmp 41) 96 96 5 rfl Try.underlying96 (by kernel_rfl) (.slice (some ⟨wd.heap.size, 0, none⟩) 1 1) ?aV ?aX 1 [co.kind % 256] (Src.byte Try.underlying96 (MA.out.blk (.head _))) (by simp; omega) ?_
    (case aV => first | rfl | (go_simp; done) | (go_simp; rfl))
    (case aX => first | rfl | (go_simp; done) | (go_simp; rfl))
    intro g2 cq2 W2 h
    have h := h.drop
    rw [← HL2.out] at h ⊢
    have M5 := Aside0.mk h
    clear h MD
    refine hK.out _ _ ?_; clear hK K; refine kz (some 42) ?_
    refine pz 10 43 ?_; refine pz 11 44 ?_
    refine lz 12 none (fun K hK => ?_)
    have b0 := M5.out.box (.head _); have b1 := M5.out.free (.head _)
    refine skip_ (w1 := ?_) (by rfl) rfl ?_ ?_
    rotate_left
    · go_simp
      rfl
    clear b0 b1
    refine hK.out _ _ ?_; clear hK K
    refine dz ?_
    clear hHeld HT_ HW_
    have M6 : Aside0 (Mem w (W2.setCell ⟨gw, 0, none⟩ (.slice (some ⟨g2, 0, none⟩) lk2.length cq2)) [Hold.box gw #[.slice (some ⟨g2, 0, none⟩) (lk2).length cq2] 160, Hold.bts g2 cq2 (lk2), Hold.box gc #[.int .i64 co.kind, .int .u64 co.num, .string co.text] 100, Hold.box w.heap.size #[.slice A0 x.funcs.length c0, .slice (some ac) x.consts.length c1] 37]) := ⟨Mem.set (A := []) M5.out 0 (.slice (some ⟨g2, 0, none⟩) lk2.length cq2) rfl⟩; clear M5
    generalize W2.setCell ⟨gw, 0, none⟩ (.slice (some ⟨g2, 0, none⟩) lk2.length cq2) = W3 at M6 ⊢
    have hl2 : lk2.length ≤ 2001 := by rw [HL2.out, List.length_append]; simp; omega
    have zc := M6.out.box (.tail _ (.tail _ (.head _)))
    by_cases k1 : co.kind = 1
    · have q1 : (co.kind == 1) = true := by simp [k1]
      have HE0 := Aside0.mk (show imgL1 x ++ flatTo constL x.consts (k + 1) = lk2 ++ eightTo co.num 8 from by
        rw [HS.out, ← List.append_assoc, ← HLK.out, HL2.out]
        unfold constL
        rw [if_pos k1, List.append_assoc]
        rfl)
      clear k1 htx
      go_upto_region 10 with fail
      clear zc
      go_loopw [6] (fun v wx => ∃ (m : Int) (j g c : Nat) (lk : List Int), v = .int .i64 m ∧ Aside0 (m = 7 - (j : Int)) ∧ j ≤ 8 ∧ Aside0 (lk = lk2 ++ eightTo co.num j) ∧ Aside0 (Mem w wx [Hold.box gw #[.slice (some ⟨g, 0, none⟩) (lk).length c] 160, Hold.bts g c (lk), Hold.box gc #[.int .i64 co.kind, .int .u64 co.num, .string co.text] 100, Hold.box w.heap.size #[.slice A0 x.funcs.length c0, .slice (some ac) x.consts.length c1] 37])) (fun v _ => ((intOf v) + 1).toNat)
      case atStart => exact ⟨7, 0, _, _, lk2, rfl, ⟨rfl⟩, by omega, ⟨by simp [eightTo]⟩, M6⟩
      case round =>
      clear M6
      obtain ⟨m, j, g, c, lj, rfl, hm, hj, HLJ, M6⟩ := hrel
      by_cases hjt : j < 8
      · have hle : (m : Int) ≥ 0 := by have := hm.out; omega
        have hle2 : (0 : Int) ≤ 8 * m := by omega
        have hm7 : m ≤ 7 := by have := hm.out; omega
        have hwm : wrap64 (8 * m) = 8 * m := wrap64_id (by omega) (by omega)
        have hlj : lj.length ≤ 2010 := by rw [HLJ.out, List.length_append, eight_len]; omega
        have HS8 := Aside0.mk (eight_succ co.num j)
        go_upto_region 12 with fail
        obtain ⟨lk2, hlk2⟩ : ∃ lk2, lk2 = lj ++ [IntKind.u8.wrap (co.num / 2 ^ (8 * m).toNat)] := ⟨_, rfl⟩
        have HL2 := Aside0.mk hlk2; clear hlk2
        refine sz 16 (fun W => W.cell? ⟨gw, 0, none⟩ = some (.slice (some ⟨g, 0, none⟩) lj.length c) ∧ W.cell? ⟨gc, 1, none⟩ = some (.int .u64 co.num)) [12, 15] ibI.tab12 ibI.bits12 ⟨(M6.out.drew.box (.head _) 0).trans rfl, (M6.out.drew.box (.tail _ (.tail _ (.head _))) 1).trans rfl⟩ (fun HT_ HW_ hHeld => ?_)
        have MD := Aside0.mk M6.out.drew
        clear M6
        generalize hwd : World.drew _ = wd at MD hHeld ⊢
        clear hwd
        refine pz 0 53 ?_; refine pz 1 54 ?_; refine pz 2 55 ?_; refine pz 3 56 ?_; refine pz 5 58 ?_; refine pz 7 60 ?_; refine pz 8 61 ?_; refine tz 4 57 ?_; refine tz 6 59 ?_; refine pz 9 62 ?_; refine pz 10 63 ?_
        refine ez 11 (some 64) (fun K hK => ?_)
        refine value_ (w1 := ?_) (v := ?_) (by rfl) rfl ?_ ?_
        rotate_left 2
        · go_simp
          constructor
          · rfl
          · rfl
        refine hK.out _ _ ⟨((MD.out.step (below_alloc (Below.refl _ _) _)).box (.head _) 0).trans rfl, ((MD.out.step (below_alloc (Below.refl _ _) _)).box (.tail _ (.tail _ (.head _))) 1).trans rfl⟩ (fun hHeld => ?_); clear hK K; refine kz (some 64) ?_
        refine lz 12 (some 65) (fun K hK => ?_)
        have MA := Aside0.mk (MD.out.allocAt (g := wd.heap.size) rfl #[.int .u8 (IntKind.u8.wrap (co.num / 2 ^ (8 * m).toNat))] 5)
        refine bts_append_step (A := [_, _]) MA.out (by rfl) (.tmp 57) (.tmp 64) 96 96 5 rfl Try.underlying96 (by kernel_rfl) (.slice (some ⟨wd.heap.size, 0, none⟩) 1 1) ?aV ?aX 1 [IntKind.u8.wrap (co.num / 2 ^ (8 * m).toNat)] (Src.byte Try.underlying96 (MA.out.blk (.head _))) (by simp; omega) ?_
        (case aV => first | rfl | (go_simp; done) | (go_simp; rfl))
        (case aX => first | rfl | (go_simp; done) | (go_simp; rfl))
        intro g2 cq2 W2 h
        have h := h.drop
        rw [← HL2.out] at h ⊢
        have M5 := Aside0.mk h
        clear h MD
        refine hK.out _ _ ?_; clear hK K; refine kz (some 65) ?_
        refine pz 13 66 ?_; refine pz 14 67 ?_
        refine lz 15 none (fun K hK => ?_)
        have b0 := M5.out.box (.head _); have b1 := M5.out.free (.head _)
        refine skip_ (w1 := ?_) (by rfl) rfl ?_ ?_
        rotate_left
        · go_simp
          rfl
        clear b0 b1
        refine hK.out _ _ ?_; clear hK K
        refine dz ?_
        clear hHeld HT_ HW_
        have M6 : Aside0 (Mem w (W2.setCell ⟨gw, 0, none⟩ (.slice (some ⟨g2, 0, none⟩) lk2.length cq2)) [Hold.box gw #[.slice (some ⟨g2, 0, none⟩) (lk2).length cq2] 160, Hold.bts g2 cq2 (lk2), Hold.box gc #[.int .i64 co.kind, .int .u64 co.num, .string co.text] 100, Hold.box w.heap.size #[.slice A0 x.funcs.length c0, .slice (some ac) x.consts.length c1] 37]) := ⟨Mem.set (A := []) M5.out 0 (.slice (some ⟨g2, 0, none⟩) lk2.length cq2) rfl⟩; clear M5
        generalize W2.setCell ⟨gw, 0, none⟩ (.slice (some ⟨g2, 0, none⟩) lk2.length cq2) = W3 at M6 ⊢
        go_wp2
        go_roundw
        (case measure => simp [intOf]; omega)
        have HE := Aside0.mk (show lk2 = _ ++ eightTo co.num (j + 1) from by rw [HS8.out, HL2.out, HLJ.out, ← List.append_assoc, hm.out, IntKind.wrap_u8, show (8 * (7 - (j : Int))).toNat = 8 * (7 - j) by omega])
        (case rel => first | exact ⟨m - 1, j + 1, _, _, lk2, by go_num, ⟨by have := hm.out; omega⟩, by omega, HE, M6⟩ | ((repeat apply Exists.intro); exact ⟨⟨m - 1, j + 1, _, _, lk2, by go_num, ⟨by have := hm.out; omega⟩, by omega, HE, M6⟩, rfl⟩))
      · have hle : ¬ ((m : Int) ≥ 0) := by have := hm.out; omega
        obtain rfl : j = 8 := by omega
        have HE := Aside0.mk (HLJ.out.trans HE0.out.symm)
        go_wp2
        go_roundw
        (case measure => simp [intOf]; omega)
        (case rel => first | exact ⟨k + 1, _, _, lj, by go_num, by omega, HE, Aside0.mk (Mem.mid (A := [_, _]) M6.out)⟩ | ((repeat apply Exists.intro); exact ⟨⟨k + 1, _, _, lj, by go_num, by omega, HE, Aside0.mk (Mem.mid (A := [_, _]) M6.out)⟩, rfl⟩))
    · have q1 : (co.kind == 1) = false := by simp [k1]
      by_cases k2 : co.kind = 2
      · have q2 : (co.kind == 2) = true := by simp [k2]
        have HE0 := Aside0.mk (show lk2 ++ numsL [(co.text.size : Int)] ++ bytesOf co.text = imgL1 x ++ flatTo constL x.consts (k + 1) from by
          rw [HS.out, ← List.append_assoc (imgL1 x), ← HLK.out, HL2.out]
          unfold constL
          rw [if_neg k1, if_pos k2]
          simp [numsL])
        clear k1 k2
        go_upto_region 14 with fail
        obtain ⟨la, hla⟩ : ∃ la, la = lk2 := ⟨_, rfl⟩
        rw [← hla] at M6 HL2 HE0 hl2 ⊢
        have HLA := HL2; clear HL2 hla
        obtain ⟨l3, hl3⟩ : ∃ l3, l3 = la ++ numsL [(co.text.size : Int)] := ⟨_, rfl⟩
        have HL3 := Aside0.mk hl3; clear hl3
        have z0 := zc; clear zc
        go_wp2_with fail
        have M3 := Aside0.mk (M6.out.allocAt rfl #[.int .i64 (co.text.size : Int)] 3)
        refine (cNumC [(co.text.size : Int)] (by intro n hn; rw [List.mem_singleton.1 hn]; omega) (by simp) _ _ _ _ _ _ _ _ (l3) (by omega) HL3.out M3.out 1 1 rfl).mono ?_
        clear M3 M6
        rintro e w3 ⟨rfl, g, c, h⟩
        have M7 := Aside0.mk h; clear h
        clear z0
        have hl3 : l3.length ≤ 2010 := by
          rw [HL3.out, List.length_append]
          have := numsL_len [(co.text.size : Int)]
          simp at this
          omega
        go_upto_region 15 with fail
        obtain ⟨lk2, hlk2⟩ : ∃ lk2, lk2 = l3 ++ bytesOf (co.text) := ⟨_, rfl⟩
        have HL2 := Aside0.mk hlk2; clear hlk2
        refine sz 11 (fun W => W.cell? ⟨gw, 0, none⟩ = some (.slice (some ⟨g, 0, none⟩) l3.length c) ∧ W.cell? ⟨gc, 2, none⟩ = some (.string co.text)) [7, 10] ibI.tab15 ibI.bits15 ⟨(M7.out.drew.box (.head _) 0).trans rfl, (M7.out.drew.box (.tail _ (.tail _ (.head _))) 2).trans rfl⟩ (fun HT_ HW_ hHeld => ?_)
        have MD := Aside0.mk M7.out.drew
        clear M7
        generalize hwd : World.drew _ = wd at MD hHeld ⊢
        clear hwd
        refine pz 0 76 ?_; refine pz 1 77 ?_; refine pz 2 78 ?_; refine pz 3 79 ?_; refine pz 5 81 ?_; refine tz 4 80 ?_; refine tz 6 82 ?_
        refine lz 7 (some 83) (fun K hK => ?_)
        refine bts_append_step (A := [_]) MD.out (by rfl) (.tmp 80) (.tmp 82) 96 9 5 rfl Try.underlying96 (by kernel_rfl) (.string (co.text)) ?aV ?aX (co.text).size _ (Src.text Try.underlying9 _) (by rw [bytesOf_length]; omega) ?_
        (case aV => first | rfl | (go_simp; done) | (go_simp; rfl))
        (case aX => first | rfl | (go_simp; done) | (go_simp; rfl))
        intro g2 cq2 W2 h
        rw [← HL2.out] at h ⊢
        have M5 := Aside0.mk h
        clear h MD
        refine hK.out _ _ ?_; clear hK K; refine kz (some 83) ?_
        refine pz 8 84 ?_; refine pz 9 85 ?_
        refine lz 10 none (fun K hK => ?_)
        have b0 := M5.out.box (.head _); have b1 := M5.out.free (.head _)
        refine skip_ (w1 := ?_) (by rfl) rfl ?_ ?_
        rotate_left
        · go_simp
          rfl
        clear b0 b1
        refine hK.out _ _ ?_; clear hK K
        refine dz ?_
        clear hHeld HT_ HW_
        have M6 : Aside0 (Mem w (W2.setCell ⟨gw, 0, none⟩ (.slice (some ⟨g2, 0, none⟩) lk2.length cq2)) [Hold.box gw #[.slice (some ⟨g2, 0, none⟩) (lk2).length cq2] 160, Hold.bts g2 cq2 (lk2), Hold.box gc #[.int .i64 co.kind, .int .u64 co.num, .string co.text] 100, Hold.box w.heap.size #[.slice A0 x.funcs.length c0, .slice (some ac) x.consts.length c1] 37]) := ⟨Mem.set (A := []) M5.out 0 (.slice (some ⟨g2, 0, none⟩) lk2.length cq2) rfl⟩; clear M5
        generalize W2.setCell ⟨gw, 0, none⟩ (.slice (some ⟨g2, 0, none⟩) lk2.length cq2) = W3 at M6 ⊢
        have HE := Aside0.mk (show lk2 = imgL1 x ++ flatTo constL x.consts (k + 1) from by rw [HL2.out, HL3.out, ← HE0.out])
        go_wp2
        go_roundw
        (case measure => simp [intOf]; omega)
        (case rel => first | exact ⟨k + 1, _, _, lk2, by go_num, by omega, HE, Aside0.mk (Mem.mid (A := [_, _]) M6.out)⟩ | ((repeat apply Exists.intro); exact ⟨⟨k + 1, _, _, lk2, by go_num, by omega, HE, Aside0.mk (Mem.mid (A := [_, _]) M6.out)⟩, rfl⟩))
      · have q2 : (co.kind == 2) = false := by simp [k2]
        have HE := Aside0.mk (show lk2 = imgL1 x ++ flatTo constL x.consts (k + 1) from by
          rw [HS.out, ← List.append_assoc, ← HLK.out, HL2.out]
          unfold constL
          rw [if_neg k1, if_neg k2])
        clear k1 k2
        go_wp2
        go_roundw
        (case measure => simp [intOf]; omega)
        (case rel => first | exact ⟨k + 1, _, _, lk2, by go_num, by omega, HE, Aside0.mk (Mem.mid (A := [_, _]) M6.out)⟩ | ((repeat apply Exists.intro); exact ⟨⟨k + 1, _, _, lk2, by go_num, by omega, HE, Aside0.mk (Mem.mid (A := [_, _]) M6.out)⟩, rfl⟩))
  have hle : ¬ (k : Int) < (x.consts.length : Int) := by omega
  obtain rfl : k = x.consts.length := by omega
  have HA := Aside0.mk (show imgL2 x = lk ++ numsL [(x.funcs.length : Int)] from by rw [HLK.out]; rfl)
  clear hlt hk HLK
  go_upto_region 17 with fail
  have z0 := M1.out.box (.head _); have z1 := M1.out.box (.tail _ (.tail _ (.head _)))
  go_wp2_with fail
  have M3 := Aside0.mk (M1.out.allocAt rfl #[.int .i64 (x.funcs.length : Int)] 3)
  refine (cNumC [(x.funcs.length : Int)] (by intro n hn; rw [List.mem_singleton.1 hn]; omega) (by simp) _ _ _ _ _ _ _ _ (imgL2 x) (by omega) HA.out M3.out 1 1 rfl).mono ?_
  clear M3 M1
  rintro e w3 ⟨rfl, g, c, h⟩
  have M2 := Aside0.mk h; clear h
  clear z0 z1 HA hlk lk hle
  go_upto_region 18 with fail
  have z0 := M2.out.box (.tail _ (.tail _ (.head _)))
  go_upto_region 19 with fail
  clear z0
  go_loopw [96] (fun v wx => ∃ (k g c : Nat) (lk : List Int), v = .int .i64 k ∧ k ≤ x.funcs.length ∧ Aside0 (lk = imgL2 x ++ flatTo funcL x.funcs k) ∧ Aside0 (Mem w wx [Hold.box gw #[.slice (some ⟨g, 0, none⟩) (lk).length c] 160, Hold.bts g c (lk), Hold.box w.heap.size #[.slice A0 x.funcs.length c0, .slice A1 x.consts.length c1] 37])) (fun v _ => x.funcs.length - (intOf v).toNat)
  case atStart => exact ⟨0, g, c, imgL2 x, rfl, by omega, ⟨by rw [flatTo_zero, List.append_nil]⟩, M2⟩
  case round =>
  clear M2
  obtain ⟨k, g, c, lk, rfl, hk, HLK, M2⟩ := hrel
  by_cases klt : k < x.funcs.length
  · skip
    have hlk : lk.length ≤ 70000 := by
      rw [HLK.out, List.length_append]
      have h1 := imgL2_len HI.out
      have h2 := funcTo_len HI.out k
      omega
    have hle : (k : Int) < (x.funcs.length : Int) := by omega
    have hk0 : (0 : Int) ≤ (k : Int) := by omega
    have HS := Aside0.mk (flatTo_succ zFunc funcL x.funcs klt)
    have OK := Aside0.mk (FOk.of (img_func HI.out (el_mem zFunc klt)))
    obtain ⟨af, A2, c2, A3, c3, A4, c4, haf, y0, y1, y2, y3, y4, ⟨l2, g2⟩, ⟨l3, g3⟩, ⟨l4, g4⟩⟩ := func_at6 G0.out k klt
    subst haf
    obtain ⟨fu, hfu⟩ : ∃ fu, fu = el zFunc x.funcs k := ⟨_, rfl⟩
    rw [← hfu] at HS OK y0 y1 y2 y3 y4 l2 g2 l3 g3 l4 g4
    clear hfu
    have y0 := pw_cell_below M2.out.below y0; have y1 := pw_cell_below M2.out.below y1; have y2 := pw_cell_below M2.out.below y2; have y3 := pw_cell_below M2.out.below y3; have y4 := pw_cell_below M2.out.below y4
    have G2 := Aside0.mk g2; have G3 := Aside0.mk g3; have G4 := Aside0.mk g4
    clear g2 g3 g4 l2 l3 l4
    obtain ⟨gf, hgf⟩ : ∃ gf : Nat, gf = wr.heap.size := ⟨_, rfl⟩
    have M3 := Aside0.mk (M2.out.allocAt hgf #[.int .i64 fu.params, .int .i64 fu.regs, .slice A2 fu.caps.length c2, .slice A3 fu.code.length c3, .slice A4 fu.handlers.length c4] 73).rot
    go_upto_region 21 with fail
    rw [← hgf]
    clear y0 y1 y2 y3 y4 M2 hgf
    generalize wr.alloc (.cells #[.int .i64 fu.params, .int .i64 fu.regs, .slice A2 fu.caps.length c2, .slice A3 fu.code.length c3, .slice A4 fu.handlers.length c4] 73) = wa at M3 ⊢
    have hp1 := OK.out.params; have hp2 := OK.out.regs; have hp3 := OK.out.caps
    have z0 := M3.out.box (.head _); have z1 := M3.out.box (.tail _ (.tail _ (.head _)))
    obtain ⟨lF1, hF1⟩ : ∃ lF1, lF1 = lk ++ funcL1 fu := ⟨_, rfl⟩
    have HF1 := Aside0.mk hF1; clear hF1
    have M9 := M3; clear M3
    go_wp2_with fail
    have M3 := Aside0.mk (M9.out.allocAt rfl #[.int .i64 fu.params, .int .i64 fu.regs, .int .i64 (fu.caps.length : Int)] 3)
    refine (cNumC [fu.params, fu.regs, (fu.caps.length : Int)] (by intro n hn; simp only [List.mem_cons, List.not_mem_nil, or_false] at hn; rcases hn with rfl | rfl | rfl <;> omega) (by simp) _ _ _ _ _ _ _ _ (lF1) (by omega) HF1.out M3.out 3 3 rfl).mono ?_
    clear M3 M9
    rintro e w3 ⟨rfl, g, c, h⟩
    have M4 := Aside0.mk h; clear h
    clear z0 z1
    have hlf1 : lF1.length ≤ 70015 := by
      rw [HF1.out, List.length_append]
      have := funcL1_len fu
      omega
    have z1 := M4.out.box (.tail _ (.tail _ (.head _)))
    go_upto_region 23 with fail
    clear z1
    go_loopw [113] (fun v wx => ∃ (j g c : Nat) (lj : List Int), v = .int .i64 j ∧ j ≤ fu.caps.length ∧ Aside0 (lj = lF1 ++ flatTo capL fu.caps j) ∧ Aside0 (Mem w wx [Hold.box gw #[.slice (some ⟨g, 0, none⟩) (lj).length c] 160, Hold.bts g c (lj), Hold.box gf #[.int .i64 fu.params, .int .i64 fu.regs, .slice A2 fu.caps.length c2, .slice A3 fu.code.length c3, .slice A4 fu.handlers.length c4] 73, Hold.box w.heap.size #[.slice (some af) x.funcs.length c0, .slice A1 x.consts.length c1] 37])) (fun v _ => fu.caps.length - (intOf v).toNat)
    case atStart => exact ⟨0, g, c, lF1, rfl, by omega, ⟨by rw [flatTo_zero, List.append_nil]⟩, M4⟩
    case round =>
    clear M4
    obtain ⟨j, g, c, lj, rfl, hj, HLJ, M4⟩ := hrel
    by_cases jlt : j < fu.caps.length
    · skip
      have hlj : lj.length ≤ 70140 := by
        rw [HLJ.out, List.length_append]
        have h2 := flatTo_len capL fu.caps 6 (fun y _ => capL_len y) j
        omega
      have jle : (j : Int) < (fu.caps.length : Int) := by omega
      have hj0 : (0 : Int) ≤ (j : Int) := by omega
      have HSJ := Aside0.mk (flatTo_succ zCap capL fu.caps jlt)
      have hix := OK.out.cap _ (el_mem zCap jlt)
      obtain ⟨ap, hap, _, y0, y1⟩ := Cap_at (Kd.C_below G2.out M4.out.below) j jlt
      subst hap
      obtain ⟨ca, hca⟩ : ∃ ca, ca = el zCap fu.caps j := ⟨_, rfl⟩
      rw [← hca] at HSJ hix y0 y1
      clear hca
      obtain ⟨gp, hgp⟩ : ∃ gp : Nat, gp = wr.heap.size := ⟨_, rfl⟩
      have M5 := Aside0.mk (M4.out.allocAt hgp #[.bool ca.reg, .int .i64 ca.index] 105).rot
      go_upto_region 25 with fail
      rw [← hgp]
      clear y0 y1 M4 hgp
      generalize wr.alloc (.cells #[.bool ca.reg, .int .i64 ca.index] 105) = wb at M5 ⊢
      obtain ⟨vr, vi⟩ := ca
      simp only at hix M5 HSJ ⊢
      have zp := M5.out.box (.tail _ (.tail _ (.head _)))
      cases vr
      · skip
        go_upto_region 28 with fail
        clear zp
        have z0 := M5.out.box (.head _); have f0 := M5.out.free (.head _)
        go_wp2_with (((with_reducible refine gate_builtin (b := .append) (xs := #[.tmp 123, .tmp 125]) rfl ?_); at_builtin; refine Aside0.out ?_))
        refine ⟨?_⟩
        have MA := Aside0.mk (M5.out.allocAt (g := wb.heap.size) rfl #[.int .u8 0] 5)
        refine bts_append (A := [_, _]) MA.out rfl (.tmp 123) (.tmp 125) 96 96 5 rfl Try.underlying96 (by kernel_rfl) (.slice (some ⟨wb.heap.size, 0, none⟩) 1 1) ?aV ?aX 1 [0] (Src.byte Try.underlying96 (MA.out.blk (.head _))) (by simp; omega) ?_
        (case aV => first | rfl | (go_simp; done) | (go_simp; rfl))
        (case aX => first | rfl | (go_simp; done) | (go_simp; rfl))
        intro g2 c22 W2 h
        have h := h.drop
        obtain ⟨lj2, hlj2⟩ : ∃ lj2, lj2 = lj ++ [0] := ⟨_, rfl⟩
        rw [← hlj2] at h ⊢
        have HL2 := Aside0.mk hlj2; clear hlj2
        have M6 := Aside0.mk h; clear h MA M5 z0 f0
        have z0 := M6.out.box (.head _); have f0 := M6.out.free (.head _)
        have M7 : Aside0 (Mem w (W2.setCell ⟨gw, 0, none⟩ (.slice (some ⟨g2, 0, none⟩) lj2.length c22)) [Hold.box gw #[.slice (some ⟨g2, 0, none⟩) (lj2).length c22] 160, Hold.bts g2 c22 (lj2), Hold.box gp #[.bool false, .int .i64 vi] 105, Hold.box gf #[.int .i64 fu.params, .int .i64 fu.regs, .slice (some ap) fu.caps.length c2, .slice A3 fu.code.length c3, .slice A4 fu.handlers.length c4] 73, Hold.box w.heap.size #[.slice (some af) x.funcs.length c0, .slice A1 x.consts.length c1] 37]) := ⟨Mem.set (A := []) M6.out 0 (.slice (some ⟨g2, 0, none⟩) lj2.length c22) rfl⟩
        clear M6
        go_upto_region 29 with fail
        clear z0 f0
        generalize W2.setCell ⟨gw, 0, none⟩ (.slice (some ⟨g2, 0, none⟩) lj2.length c22) = W3 at M7 ⊢
        have hlj2 : lj2.length ≤ 70141 := by rw [HL2.out, List.length_append]; simp; omega
        obtain ⟨lj3, hlj3⟩ : ∃ lj3, lj3 = lj2 ++ numsL [vi] := ⟨_, rfl⟩
        have HL3 := Aside0.mk hlj3; clear hlj3
        have HE := Aside0.mk (show lj3 = lF1 ++ flatTo capL fu.caps (j + 1) from by
          rw [HSJ.out, ← List.append_assoc, ← HLJ.out, HL3.out, HL2.out]
          simp [capL])
        have z1 := M7.out.box (.tail _ (.tail _ (.head _)))
        go_wp2_with fail
        have M3 := Aside0.mk (M7.out.allocAt rfl #[.int .i64 vi] 3)
        refine (cNumC [vi] (by intro n hn; rw [List.mem_singleton.1 hn]; omega) (by simp) _ _ _ _ _ _ _ _ (lj3) (by omega) HL3.out M3.out 1 1 rfl).mono ?_
        clear M3 M7
        rintro e w3 ⟨rfl, g, c, h⟩
        have M8 := Aside0.mk h; clear h
        clear z1
        go_wp2
        go_roundw
        (case measure => simp [intOf]; omega)
        (case rel => first | exact ⟨j + 1, _, _, lj3, by go_num, by omega, HE, Aside0.mk (Mem.mid (A := [_, _]) M8.out)⟩ | ((repeat apply Exists.intro); exact ⟨⟨j + 1, _, _, lj3, by go_num, by omega, HE, Aside0.mk (Mem.mid (A := [_, _]) M8.out)⟩, rfl⟩))
      · skip
        go_upto_region 28 with fail
        clear zp
        have z0 := M5.out.box (.head _); have f0 := M5.out.free (.head _)
        go_wp2_with (((with_reducible refine gate_builtin (b := .append) (xs := #[.tmp 123, .tmp 125]) rfl ?_); at_builtin; refine Aside0.out ?_))
        refine ⟨?_⟩
        have MA := Aside0.mk (M5.out.allocAt (g := wb.heap.size) rfl #[.int .u8 1] 5)
        refine bts_append (A := [_, _]) MA.out rfl (.tmp 123) (.tmp 125) 96 96 5 rfl Try.underlying96 (by kernel_rfl) (.slice (some ⟨wb.heap.size, 0, none⟩) 1 1) ?aV ?aX 1 [1] (Src.byte Try.underlying96 (MA.out.blk (.head _))) (by simp; omega) ?_
        (case aV => first | rfl | (go_simp; done) | (go_simp; rfl))
        (case aX => first | rfl | (go_simp; done) | (go_simp; rfl))
        intro g2 c22 W2 h
        have h := h.drop
        obtain ⟨lj2, hlj2⟩ : ∃ lj2, lj2 = lj ++ [1] := ⟨_, rfl⟩
        rw [← hlj2] at h ⊢
        have HL2 := Aside0.mk hlj2; clear hlj2
        have M6 := Aside0.mk h; clear h MA M5 z0 f0
        have z0 := M6.out.box (.head _); have f0 := M6.out.free (.head _)
        have M7 : Aside0 (Mem w (W2.setCell ⟨gw, 0, none⟩ (.slice (some ⟨g2, 0, none⟩) lj2.length c22)) [Hold.box gw #[.slice (some ⟨g2, 0, none⟩) (lj2).length c22] 160, Hold.bts g2 c22 (lj2), Hold.box gp #[.bool true, .int .i64 vi] 105, Hold.box gf #[.int .i64 fu.params, .int .i64 fu.regs, .slice (some ap) fu.caps.length c2, .slice A3 fu.code.length c3, .slice A4 fu.handlers.length c4] 73, Hold.box w.heap.size #[.slice (some af) x.funcs.length c0, .slice A1 x.consts.length c1] 37]) := ⟨Mem.set (A := []) M6.out 0 (.slice (some ⟨g2, 0, none⟩) lj2.length c22) rfl⟩
        clear M6
        go_upto_region 29 with fail
        clear z0 f0
        generalize W2.setCell ⟨gw, 0, none⟩ (.slice (some ⟨g2, 0, none⟩) lj2.length c22) = W3 at M7 ⊢
        have hlj2 : lj2.length ≤ 70141 := by rw [HL2.out, List.length_append]; simp; omega
        obtain ⟨lj3, hlj3⟩ : ∃ lj3, lj3 = lj2 ++ numsL [vi] := ⟨_, rfl⟩
        have HL3 := Aside0.mk hlj3; clear hlj3
        have HE := Aside0.mk (show lj3 = lF1 ++ flatTo capL fu.caps (j + 1) from by
          rw [HSJ.out, ← List.append_assoc, ← HLJ.out, HL3.out, HL2.out]
          simp [capL])
        have z1 := M7.out.box (.tail _ (.tail _ (.head _)))
        go_wp2_with fail
        have M3 := Aside0.mk (M7.out.allocAt rfl #[.int .i64 vi] 3)
        refine (cNumC [vi] (by intro n hn; rw [List.mem_singleton.1 hn]; omega) (by simp) _ _ _ _ _ _ _ _ (lj3) (by omega) HL3.out M3.out 1 1 rfl).mono ?_
        clear M3 M7
        rintro e w3 ⟨rfl, g, c, h⟩
        have M8 := Aside0.mk h; clear h
        clear z1
        go_wp2
        go_roundw
        (case measure => simp [intOf]; omega)
        (case rel => first | exact ⟨j + 1, _, _, lj3, by go_num, by omega, HE, Aside0.mk (Mem.mid (A := [_, _]) M8.out)⟩ | ((repeat apply Exists.intro); exact ⟨⟨j + 1, _, _, lj3, by go_num, by omega, HE, Aside0.mk (Mem.mid (A := [_, _]) M8.out)⟩, rfl⟩))
    have jle : ¬ (j : Int) < (fu.caps.length : Int) := by omega
    obtain rfl : j = fu.caps.length := by omega
    clear jlt hj
    obtain ⟨lF2, hF2⟩ : ∃ lF2, lF2 = lj ++ numsL [(fu.code.length : Int)] := ⟨_, rfl⟩
    have HF2 := Aside0.mk (show lF2 = lk ++ funcL2 fu from by rw [hF2, HLJ.out, HF1.out]; simp [funcL2])
    have HA := Aside0.mk hF2; clear hF2
    have hlj : lj.length ≤ 70140 := by
      rw [HLJ.out, List.length_append]
      have h2 := flatTo_len capL fu.caps 6 (fun y _ => capL_len y) fu.caps.length
      omega
    clear HLJ
    have hp4 := OK.out.code
    go_upto_region 31 with fail
    have z0 := M4.out.box (.head _); have z1 := M4.out.box (.tail _ (.tail _ (.head _)))
    go_wp2_with fail
    have M3 := Aside0.mk (M4.out.allocAt rfl #[.int .i64 (fu.code.length : Int)] 3)
    refine (cNumC [(fu.code.length : Int)] (by intro n hn; rw [List.mem_singleton.1 hn]; omega) (by simp) _ _ _ _ _ _ _ _ (lF2) (by omega) HA.out M3.out 1 1 rfl).mono ?_
    clear M3 M4
    rintro e w3 ⟨rfl, g, c, h⟩
    have M5 := Aside0.mk h; clear h
    clear z0 z1 HA hlj lj jle
    have hlf2 : lF2.length ≤ 70200 := by
      rw [HF2.out, List.length_append]
      have := funcL2_len OK.out
      omega
    have z1 := M5.out.box (.tail _ (.tail _ (.head _)))
    go_upto_region 33 with fail
    clear z1
    go_loopw [144] (fun v wx => ∃ (j g c : Nat) (lj : List Int), v = .int .i64 j ∧ j ≤ fu.code.length ∧ Aside0 (lj = lF2 ++ flatTo insL fu.code j) ∧ Aside0 (Mem w wx [Hold.box gw #[.slice (some ⟨g, 0, none⟩) (lj).length c] 160, Hold.bts g c (lj), Hold.box gf #[.int .i64 fu.params, .int .i64 fu.regs, .slice A2 fu.caps.length c2, .slice A3 fu.code.length c3, .slice A4 fu.handlers.length c4] 73, Hold.box w.heap.size #[.slice (some af) x.funcs.length c0, .slice A1 x.consts.length c1] 37])) (fun v _ => fu.code.length - (intOf v).toNat)
    case atStart => exact ⟨0, g, c, lF2, rfl, by omega, ⟨by rw [flatTo_zero, List.append_nil]⟩, M5⟩
    case round =>
    clear M5
    obtain ⟨j, g, c, lj, rfl, hj, HLJ, M5⟩ := hrel
    by_cases jlt : j < fu.code.length
    · skip
      have hlj : lj.length ≤ 73600 := by
        rw [HLJ.out, List.length_append]
        have h2 := flatTo_len insL fu.code 11 (fun y _ => insL_len y) j
        omega
      have jle : (j : Int) < (fu.code.length : Int) := by omega
      have hj0 : (0 : Int) ≤ (j : Int) := by omega
      have HSJ := Aside0.mk (flatTo_succ zIns insL fu.code jlt)
      have hix := OK.out.ins _ (el_mem zIns jlt)
      obtain ⟨ap, hap, _, y0, y1, y2⟩ := Ins_at (Kd.C_below G3.out M5.out.below) j jlt
      subst hap
      obtain ⟨ca, hca⟩ : ∃ ca, ca = el zIns fu.code j := ⟨_, rfl⟩
      rw [← hca] at HSJ hix y0 y1 y2
      clear hca
      obtain ⟨gc, hgc⟩ : ∃ gc : Nat, gc = wr.heap.size := ⟨_, rfl⟩
      have M6 := Aside0.mk (M5.out.allocAt hgc #[.int .i64 ca.op, .int .i64 ca.a, .int .i64 ca.b] 76).rot
      go_upto_region 35 with fail
      rw [← hgc]
      clear y0 y1 y2 M5 hgc
      generalize wr.alloc (.cells #[.int .i64 ca.op, .int .i64 ca.a, .int .i64 ca.b] 76) = wb at M6 ⊢
      obtain ⟨lk2, hlk2⟩ : ∃ lk2, lk2 = lj ++ [ca.op % 256] := ⟨_, rfl⟩
      have HL2 := Aside0.mk hlk2; clear hlk2
      refine sz 13 (fun W => W.cell? ⟨gw, 0, none⟩ = some (.slice (some ⟨g, 0, none⟩) lj.length c) ∧ W.cell? ⟨gc, 0, none⟩ = some (.int .i64 ca.op)) [9, 12] ibI.tab35 ibI.bits35 ⟨(M6.out.drew.box (.head _) 0).trans rfl, (M6.out.drew.box (.tail _ (.tail _ (.head _))) 0).trans rfl⟩ (fun HT_ HW_ hHeld => ?_)
      have MD := Aside0.mk M6.out.drew
      clear M6
      generalize hwd : World.drew _ = wd at MD hHeld ⊢
      clear hwd
      refine pz 0 148 ?_; refine pz 1 149 ?_; refine pz 2 150 ?_; refine pz 3 151 ?_; refine pz 5 153 ?_; refine tz 4 152 ?_; refine tz 6 154 ?_; refine pz 7 155 ?_
      refine ez 8 (some 156) (fun K hK => ?_)
      refine value_ (w1 := ?_) (v := ?_) (by rfl) rfl ?_ ?_
      rotate_left 2
      · go_simp
        constructor
        · rfl
        · rfl
      refine hK.out _ _ ⟨((MD.out.step (below_alloc (Below.refl _ _) _)).box (.head _) 0).trans rfl, ((MD.out.step (below_alloc (Below.refl _ _) _)).box (.tail _ (.tail _ (.head _))) 0).trans rfl⟩ (fun hHeld => ?_); clear hK K; refine kz (some 156) ?_
      refine lz 9 (some 157) (fun K hK => ?_)
      have MA := Aside0.mk (MD.out.allocAt (g := wd.heap.size) rfl #[.int .u8 (ca.op % 256)] 5)
      refine bts_append_step (A := [_, _]) MA.out (by rfl) (.tmp 152) (.tmp 156) 96 96 5 rfl Try.underlying96 (by kernel_rfl) (.slice (some ⟨wd.heap.size, 0, none⟩) 1 1) ?aV ?aX 1 [ca.op % 256] (Src.byte Try.underlying96 (MA.out.blk (.head _))) (by simp; omega) ?_
      (case aV => first | rfl | (go_simp; done) | (go_simp; rfl))
      (case aX => first | rfl | (go_simp; done) | (go_simp; rfl))
      intro g2 cq2 W2 h
      have h := h.drop
      rw [← HL2.out] at h ⊢
      have M5 := Aside0.mk h
      clear h MD
      refine hK.out _ _ ?_; clear hK K; refine kz (some 157) ?_
      refine pz 10 158 ?_; refine pz 11 159 ?_
      refine lz 12 none (fun K hK => ?_)
      have b0 := M5.out.box (.head _); have b1 := M5.out.free (.head _)
      refine skip_ (w1 := ?_) (by rfl) rfl ?_ ?_
      rotate_left
      · go_simp
        rfl
      clear b0 b1
      refine hK.out _ _ ?_; clear hK K
      refine dz ?_
      clear hHeld HT_ HW_
      have M6 : Aside0 (Mem w (W2.setCell ⟨gw, 0, none⟩ (.slice (some ⟨g2, 0, none⟩) lk2.length cq2)) [Hold.box gw #[.slice (some ⟨g2, 0, none⟩) (lk2).length cq2] 160, Hold.bts g2 cq2 (lk2), Hold.box gc #[.int .i64 ca.op, .int .i64 ca.a, .int .i64 ca.b] 76, Hold.box gf #[.int .i64 fu.params, .int .i64 fu.regs, .slice A2 fu.caps.length c2, .slice (some ap) fu.code.length c3, .slice A4 fu.handlers.length c4] 73, Hold.box w.heap.size #[.slice (some af) x.funcs.length c0, .slice A1 x.consts.length c1] 37]) := ⟨Mem.set (A := []) M5.out 0 (.slice (some ⟨g2, 0, none⟩) lk2.length cq2) rfl⟩; clear M5
      generalize W2.setCell ⟨gw, 0, none⟩ (.slice (some ⟨g2, 0, none⟩) lk2.length cq2) = W3 at M6 ⊢
      have hl2 : lk2.length ≤ 73601 := by rw [HL2.out, List.length_append]; simp; omega
      obtain ⟨lj3, hlj3⟩ : ∃ lj3, lj3 = lk2 ++ numsL [ca.a, ca.b] := ⟨_, rfl⟩
      have HL3 := Aside0.mk hlj3; clear hlj3
      have HE := Aside0.mk (show lj3 = lF2 ++ flatTo insL fu.code (j + 1) from by
        rw [HSJ.out, ← List.append_assoc, ← HLJ.out, HL3.out, HL2.out]
        simp [insL])
      go_upto_region 36 with fail
      have z1 := M6.out.box (.tail _ (.tail _ (.head _)))
      go_wp2_with fail
      have M3 := Aside0.mk (M6.out.allocAt rfl #[.int .i64 ca.a, .int .i64 ca.b] 3)
      refine (cNumC [ca.a, ca.b] (by intro n hn; simp only [List.mem_cons, List.not_mem_nil, or_false] at hn; rcases hn with rfl | rfl <;> omega) (by simp) _ _ _ _ _ _ _ _ (lj3) (by omega) HL3.out M3.out 2 2 rfl).mono ?_
      clear M3 M6
      rintro e w3 ⟨rfl, g, c, h⟩
      have M7 := Aside0.mk h; clear h
      clear z1
      go_wp2
      go_roundw
      (case measure => simp [intOf]; omega)
      (case rel => first | exact ⟨j + 1, _, _, lj3, by go_num, by omega, HE, Aside0.mk (Mem.mid (A := [_, _]) M7.out)⟩ | ((repeat apply Exists.intro); exact ⟨⟨j + 1, _, _, lj3, by go_num, by omega, HE, Aside0.mk (Mem.mid (A := [_, _]) M7.out)⟩, rfl⟩))
    have jle : ¬ (j : Int) < (fu.code.length : Int) := by omega
    obtain rfl : j = fu.code.length := by omega
    clear jlt hj
    obtain ⟨lF3, hF3⟩ : ∃ lF3, lF3 = lj ++ numsL [(fu.handlers.length : Int)] := ⟨_, rfl⟩
    have HF3 := Aside0.mk (show lF3 = lk ++ funcL3 fu from by rw [hF3, HLJ.out, HF2.out]; simp [funcL3])
    have HA := Aside0.mk hF3; clear hF3
    have hlj : lj.length ≤ 73600 := by
      rw [HLJ.out, List.length_append]
      have h2 := flatTo_len insL fu.code 11 (fun y _ => insL_len y) fu.code.length
      omega
    clear HLJ
    have hp5 := OK.out.hands
    go_upto_region 38 with fail
    have z0 := M5.out.box (.head _); have z1 := M5.out.box (.tail _ (.tail _ (.head _)))
    go_wp2_with fail
    have M3 := Aside0.mk (M5.out.allocAt rfl #[.int .i64 (fu.handlers.length : Int)] 3)
    refine (cNumC [(fu.handlers.length : Int)] (by intro n hn; rw [List.mem_singleton.1 hn]; omega) (by simp) _ _ _ _ _ _ _ _ (lF3) (by omega) HA.out M3.out 1 1 rfl).mono ?_
    clear M3 M5
    rintro e w3 ⟨rfl, g, c, h⟩
    have M6 := Aside0.mk h; clear h
    clear z0 z1 HA hlj lj jle
    have hlf3 : lF3.length ≤ 73500 := by
      rw [HF3.out, List.length_append]
      have := funcL3_len OK.out
      omega
    have z1 := M6.out.box (.tail _ (.tail _ (.head _)))
    go_upto_region 40 with fail
    clear z1
    go_loopw [177] (fun v wx => ∃ (j g c : Nat) (lj : List Int), v = .int .i64 j ∧ j ≤ fu.handlers.length ∧ Aside0 (lj = lF3 ++ flatTo handL fu.handlers j) ∧ Aside0 (Mem w wx [Hold.box gw #[.slice (some ⟨g, 0, none⟩) (lj).length c] 160, Hold.bts g c (lj), Hold.box gf #[.int .i64 fu.params, .int .i64 fu.regs, .slice A2 fu.caps.length c2, .slice A3 fu.code.length c3, .slice A4 fu.handlers.length c4] 73, Hold.box w.heap.size #[.slice (some af) x.funcs.length c0, .slice A1 x.consts.length c1] 37])) (fun v _ => fu.handlers.length - (intOf v).toNat)
    case atStart => exact ⟨0, g, c, lF3, rfl, by omega, ⟨by rw [flatTo_zero, List.append_nil]⟩, M6⟩
    case round =>
    clear M6
    obtain ⟨j, g, c, lj, rfl, hj, HLJ, M6⟩ := hrel
    by_cases jlt : j < fu.handlers.length
    · skip
      have hlj : lj.length ≤ 74200 := by
        rw [HLJ.out, List.length_append]
        have h2 := flatTo_len handL fu.handlers 15 (fun y _ => handL_len y) j
        omega
      have jle : (j : Int) < (fu.handlers.length : Int) := by omega
      have hj0 : (0 : Int) ≤ (j : Int) := by omega
      have HSJ := Aside0.mk (flatTo_succ zHandler handL fu.handlers jlt)
      have hix := OK.out.hand _ (el_mem zHandler jlt)
      obtain ⟨ap, hap, _, y0, y1, y2⟩ := Handler_at (Kd.C_below G4.out M6.out.below) j jlt
      subst hap
      obtain ⟨ca, hca⟩ : ∃ ca, ca = el zHandler fu.handlers j := ⟨_, rfl⟩
      rw [← hca] at HSJ hix y0 y1 y2
      clear hca
      obtain ⟨gc, hgc⟩ : ∃ gc : Nat, gc = wr.heap.size := ⟨_, rfl⟩
      have M7 := Aside0.mk (M6.out.allocAt hgc #[.int .i64 ca.from_, .int .i64 ca.to_, .int .i64 ca.target] 107).rot
      go_upto_region 42 with fail
      rw [← hgc]
      clear y0 y1 y2 M6 hgc
      generalize wr.alloc (.cells #[.int .i64 ca.from_, .int .i64 ca.to_, .int .i64 ca.target] 107) = wb at M7 ⊢
      obtain ⟨lj3, hlj3⟩ : ∃ lj3, lj3 = lj ++ numsL [ca.from_, ca.to_, ca.target] := ⟨_, rfl⟩
      have HL3 := Aside0.mk hlj3; clear hlj3
      have HE := Aside0.mk (show lj3 = lF3 ++ flatTo handL fu.handlers (j + 1) from by
        rw [HSJ.out, ← List.append_assoc, ← HLJ.out, HL3.out]
        rfl)
      have z1 := M7.out.box (.tail _ (.tail _ (.head _)))
      go_wp2_with fail
      have M3 := Aside0.mk (M7.out.allocAt rfl #[.int .i64 ca.from_, .int .i64 ca.to_, .int .i64 ca.target] 3)
      refine (cNumC [ca.from_, ca.to_, ca.target] (by intro n hn; simp only [List.mem_cons, List.not_mem_nil, or_false] at hn; rcases hn with rfl | rfl | rfl <;> omega) (by simp) _ _ _ _ _ _ _ _ (lj3) (by omega) HL3.out M3.out 3 3 rfl).mono ?_
      clear M3 M7
      rintro e w3 ⟨rfl, g, c, h⟩
      have M8 := Aside0.mk h; clear h
      clear z1
      go_wp2
      go_roundw
      (case measure => simp [intOf]; omega)
      (case rel => first | exact ⟨j + 1, _, _, lj3, by go_num, by omega, HE, Aside0.mk (Mem.mid (A := [_, _]) M8.out)⟩ | ((repeat apply Exists.intro); exact ⟨⟨j + 1, _, _, lj3, by go_num, by omega, HE, Aside0.mk (Mem.mid (A := [_, _]) M8.out)⟩, rfl⟩))
    have jle : ¬ (j : Int) < (fu.handlers.length : Int) := by omega
    obtain rfl : j = fu.handlers.length := by omega
    have HE := Aside0.mk (show lj = imgL2 x ++ flatTo funcL x.funcs (k + 1) from by
      rw [HLJ.out, HF3.out, HS.out, HLK.out]
      simp [funcL])
    go_wp2
    go_roundw
    (case measure => simp [intOf]; omega)
    (case rel => first | exact ⟨k + 1, _, _, lj, by go_num, by omega, HE, Aside0.mk (Mem.mid (A := [_, _]) M6.out)⟩ | ((repeat apply Exists.intro); exact ⟨⟨k + 1, _, _, lj, by go_num, by omega, HE, Aside0.mk (Mem.mid (A := [_, _]) M6.out)⟩, rfl⟩))
  have hle : ¬ (k : Int) < (x.funcs.length : Int) := by omega
  obtain rfl : k = x.funcs.length := by omega
  have hlk : lk.length ≤ 70000 := by
    rw [HLK.out, List.length_append]
    have h1 := imgL2_len HI.out
    have h2 := funcTo_len HI.out x.funcs.length
    omega
  have z0 := M2.out.box (.head _)
  have ks := Kd.C_string (P := Try.prog) (src := 96) (dst := 9) (e := 5) (c := c) Try.underlying96 Try.underlying5 Try.underlying9 ((M2.out.bts (.tail _ (.head _))).reads (by omega))
  have HR := Aside0.mk (show lk = imgL x from HLK.out)
  go_wp2
  go_ret
  exact ⟨by rw [← HR.out]; rfl, M2.out.below⟩
end Go.Proofs.Ytcbaokflimdjnaa.Law
end
section
namespace Go.Proofs.Ytcbaokflimdjnaa.Law
open Go.RowKit Go.Proofs.YtcbaokflimdjnaaW.PrintWords Go.Proofs.YtcbaokflimdjnaaW.PrintLast Go.Proofs.Ytcbaokflimdjnaa.Steps Go.Proofs.YtcbaokflimdjnaaW.PrintMore Go.Proofs.Ytcbaokflimdjnaa.Num Go.Proofs.Ytcbaokflimdjnaa
set_option linter.unusedVariables false
set_option linter.unusedSimpArgs false
set_option autoImplicit false
theorem Src.btsN {P : Program} {W : World} {tx e : TypeId} (hk : P.underlying tx = some (.slice e)) {g c c2 n : Nat} {l : List Int} (h : Bts W g c l) (hn : n = l.length) : Src P 1 tx (.slice (some ⟨g, 0, none⟩) n c2) n (nums .u8 l) W := by
  subst hn
  exact Src.bts hk h
theorem conv_str (W : World) (s : ByteArray) : ∃ c W2, (convert 9 96 (.string s)).run Try.prog W = .ok (.slice (some ⟨W.heap.size, 0, none⟩) s.size c) W2 ∧ ∀ (w : World) (H : List Hold), Mem w W H → Mem w W2 (Hold.bts W.heap.size c (bytesOf s) :: H) :=
  ⟨_, _, run_bytes_of_string W 9 96 5 s Try.underlying9 Try.underlying96 Try.underlying5, fun w H M => M.conv s _ _ (grownCap_ge W s.size 0 _)⟩
/-- What ImageText answers, of what Sealed does. -/
def imgR (x : Image) (t : ByteArray) (b : Bool) : ByteArray × Bool := if imgB x = true then (if ((imgL x).length : Int) + 4 > 12000 then (⟨#[]⟩, false) else (t, b)) else (⟨#[]⟩, false)
def ibS.T18 : Bool × List (List Nat × List Nat) := (true, [([], []), ([], []), ([1], [1]), ([2], [2]), ([], []), ([4], [4]), ([5, 3], [5]), ([3, 6], [3, 6]), ([], []), ([8], [8]), ([9], [9]), ([10, 6], [10]), ([7, 11], [7, 11]), ([12], [12]), ([0, 13, 11], [0, 13]), ([14, 14, 0, 1, 2, 3, 4, 5, 6, 7, 8, 9, 10, 11, 12, 13, 14], [0, 14])])
def ibS.B18 : List Nat := [0, 0, 2, 6, 0, 16, 62, 126, 0, 256, 768, 1918, 4094, 8190, 16383, 32767]
theorem ibS.tab18 : rtab .any (opsOf Try.f45 18) = ibS.T18 := by kernel_rfl
theorem ibS.bits18 : waitsOk ibS.T18.2 ibS.B18 = true := by kernel_rfl
def ibS.T22 : Bool × List (List Nat × List Nat) := (true, [([], []), ([], []), ([1], [1]), ([], []), ([2, 3], [2, 3]), ([4], [4]), ([5], [5]), ([6], [6]), ([], []), ([8], [8]), ([], []), ([9, 10], [9, 10]), ([11], [11]), ([12], [12]), ([13, 7], [13]), ([7, 14], [7, 14]), ([15], [15]), ([0, 16, 14], [0, 16]), ([17, 17, 0, 1, 2, 3, 4, 5, 6, 7, 8, 9, 10, 11, 12, 13, 14, 15, 16, 17], [0, 17])])
def ibS.B22 : List Nat := [0, 0, 2, 0, 14, 30, 62, 126, 0, 256, 0, 1792, 3840, 7936, 16382, 32766, 65534, 131071, 262143]
theorem ibS.tab22 : rtab .any (opsOf Try.f45 22) = ibS.T22 := by kernel_rfl
theorem ibS.bits22 : waitsOk ibS.T22.2 ibS.B22 = true := by kernel_rfl
def ibS.T28 : Bool × List (List Nat × List Nat) := (true, [([], []), ([], []), ([1], [1]), ([], []), ([2, 3], [2, 3]), ([4], [4]), ([5], [5]), ([6], [6]), ([], []), ([8], [8]), ([], []), ([9, 10], [9, 10]), ([11], [11]), ([12], [12]), ([13, 7], [13]), ([7, 14], [7, 14]), ([15], [15]), ([0, 16, 14], [0, 16]), ([17, 17, 0, 1, 2, 3, 4, 5, 6, 7, 8, 9, 10, 11, 12, 13, 14, 15, 16, 17], [0, 17])])
def ibS.B28 : List Nat := [0, 0, 2, 0, 14, 30, 62, 126, 0, 256, 0, 1792, 3840, 7936, 16382, 32766, 65534, 131071, 262143]
theorem ibS.tab28 : rtab .any (opsOf Try.f45 28) = ibS.T28 := by kernel_rfl
theorem ibS.bits28 : waitsOk ibS.T28.2 ibS.B28 = true := by kernel_rfl
def ibS.T34 : Bool × List (List Nat × List Nat) := (true, [([], []), ([], []), ([1], [1]), ([2], [2]), ([], []), ([4], [4]), ([5, 3], [5]), ([3, 6], [3, 6]), ([], []), ([8], [8]), ([9, 6], [9]), ([7, 10], [7, 10]), ([11], [11]), ([0, 12, 10], [0, 12]), ([13, 13, 0, 1, 2, 3, 4, 5, 6, 7, 8, 9, 10, 11, 12, 13], [0, 13])])
def ibS.B34 : List Nat := [0, 0, 2, 6, 0, 16, 62, 126, 0, 256, 894, 2046, 4094, 8191, 16383]
theorem ibS.tab34 : rtab .any (opsOf Try.f45 34) = ibS.T34 := by kernel_rfl
theorem ibS.bits34 : waitsOk ibS.T34.2 ibS.B34 = true := by kernel_rfl
set_option maxHeartbeats 2000000 in
set_option maxRecDepth 100000 in
theorem cImgS (x : Image) (t : ByteArray) (b : Bool) (A0 : Option Addr) (c0 : Nat) (A1 : Option Addr) (c1 : Nat) (w : World) (hs : ∀ w : World, Calls Try.prog 78 #[.string (strOfNums (imgL x))] w fun e w' => e = .returned (.tuple #[.string t, .bool b]) ∧ Below w.heap.size w w') (l0 : x.funcs.length ≤ c0) (g0 : kFuncI.C w A0 x.funcs.length x.funcs) (l1 : x.consts.length ≤ c1) (g1 : kConst.C w A1 x.consts.length x.consts) (hn : ∀ y ∈ x.consts, 0 ≤ y.num ∧ y.num < 18446744073709551616) :
    Calls Try.prog 45 #[.agg #[.slice A0 x.funcs.length c0, .slice A1 x.consts.length c1]] w fun e w' => e = .returned (.tuple #[.string (imgR x t b).1, .bool (imgR x t b).2]) ∧ Below w.heap.size w w' := by
  have hu0 := Try.underlying37; have hu1 := Try.underlying96; have hu2 := Try.underlying5; have hu3 := Try.underlying100; have hu4 := Try.underlying73; have hu5 := Try.underlying105; have hu6 := Try.underlying76; have hu7 := Try.underlying107; have hu8 := Try.underlying35; have hu9 := Try.underlying34; have hu10 := Try.underlying69; have hu11 := Try.underlying70; have hu12 := Try.underlying71; have hu13 := Try.underlying3; have hu14 := Try.underlying98; have hu15 := Try.underlying9
  have G0 := Aside0.mk g0; have G1 := Aside0.mk g1; have HN := Aside0.mk hn; have L0 := Aside0.mk l0; have L1 := Aside0.mk l1; have HSE := Aside0.mk hs
  clear g0 g1 hn l0 l1 hs
  have M0 := Aside0.mk ((Mem.start w).allocAt rfl #[.slice A0 x.funcs.length c0, .slice A1 x.consts.length c1] 37)
  have z := M0.out.box (.head _)
  go_enter Try.func45, Try.ntmps45
  go_wp2_with fail
  refine (cImageOkS x A0 c0 A1 c1 _ L0.out (Kd.C_below G0.out M0.out.below) L1.out (Kd.C_below G1.out M0.out.below) HN.out).mono ?_
  rintro e w1 ⟨rfl, hb⟩
  have M1 := Aside0.mk (M0.out.step hb); clear hb M0 z
  rcases Bool.eq_false_or_eq_true (imgB x) with hi | hi
  rotate_left
  · rw [hi]
    have HR := Aside0.mk (show imgR x t b = (⟨#[]⟩, false) from if_neg (by rw [hi]; decide))
    clear hi
    go_wp2
    go_ret2
    exact ⟨by rw [HR.out]; rfl, M1.out.below⟩
  rw [hi]
  have HI := Aside0.mk hi
  have HR := Aside0.mk (show imgR x t b = if ((imgL x).length : Int) + 4 > 12000 then (⟨#[]⟩, false) else (t, b) from if_pos hi)
  have hln := img_len hi
  clear hi
  have z1 := M1.out.box (.head _)
  go_upto_region 3 with fail
  go_wp2_with fail
  refine (cVarS (x.consts.length : Int) _ (by omega) (by omega)).mono ?_
  rintro e w2 ⟨rfl, hb⟩
  have M2 := Aside0.mk (M1.out.step hb); clear hb M1
  clear z1
  have hv := varB_size (x.consts.length : Int)
  have hc3 : (⟨#[83, 67, 49]⟩ : ByteArray).size = 3 := rfl
  have hcv : (⟨#[83, 67, 49]⟩ : ByteArray).size + (varB (x.consts.length : Int)).size ≤ 9223372036854775807 := by omega
  obtain ⟨cc, Wc, hkc, hM⟩ := conv_str w2 (⟨#[83, 67, 49]⟩ ++ varB (x.consts.length : Int))
  have M3 := Aside0.mk (hM _ _ M2.out); clear hM M2
  go_upto_region 5 with fail
  clear hkc hc3 hcv
  have hb1 : bytesOf ((⟨#[83, 67, 49]⟩ : ByteArray) ++ varB (x.consts.length : Int)) = imgL1 x := by
    rw [bytes_app]
    simp [imgL1, numsL]
    rfl
  have hb2 : 3 + (varB (x.consts.length : Int)).size = (imgL1 x).length := by rw [← hb1, bytesOf_length, ByteArray.size_append]; rfl
  rw [hb1] at M3
  rw [hb2]
  clear hb1 hb2
  go_loopw [4, 5] (fun u v wx => ∃ (k g c : Nat) (lk : List Int), u = .slice (some ⟨g, 0, none⟩) lk.length c ∧ v = .int .i64 k ∧ k ≤ x.consts.length ∧ Aside0 (lk = imgL1 x ++ flatTo constL x.consts k) ∧ Aside0 (Mem w wx [Hold.bts g c (lk), Hold.box w.heap.size #[.slice A0 x.funcs.length c0, .slice A1 x.consts.length c1] 37])) (fun _ v _ => x.consts.length - (intOf v).toNat)
  case atStart => exact ⟨0, _, _, imgL1 x, rfl, rfl, by omega, ⟨by rw [flatTo_zero, List.append_nil]⟩, M3⟩
  case round =>
  clear M3
  obtain ⟨k, g, c, lk, rfl, rfl, hk, HLK, M3⟩ := hrel
  by_cases klt : k < x.consts.length
  · skip
    have hlk : lk.length ≤ 2000 := by
      rw [HLK.out, List.length_append]
      have h1 := imgL1_len x
      have h2 := constTo_len HI.out k
      omega
    have hle : (k : Int) < (x.consts.length : Int) := by omega
    have hk0 : (0 : Int) ≤ (k : Int) := by omega
    have HS := Aside0.mk (flatTo_succ zConst constL x.consts klt)
    have hnum := HN.out _ (el_mem zConst klt)
    have htx := img_const HI.out (el_mem zConst klt)
    obtain ⟨ac, hac, _, y0, y1, y2⟩ := Const_at (Kd.C_below G1.out M3.out.below) k klt
    subst hac
    obtain ⟨co, hco⟩ : ∃ co, co = el zConst x.consts k := ⟨_, rfl⟩
    rw [← hco] at HS hnum htx y0 y1 y2
    clear hco
    have zx := M3.out.box (.tail _ (.head _))
    obtain ⟨gc, hgc⟩ : ∃ gc : Nat, gc = wr.heap.size := ⟨_, rfl⟩
    have M4 := Aside0.mk (M3.out.allocAt hgc #[.int .i64 co.kind, .int .u64 co.num, .string co.text] 100).swap2
    go_upto_region 8 with fail
    rw [← hgc]
    clear y0 y1 y2 M3 hgc zx
    generalize wr.alloc (.cells #[.int .i64 co.kind, .int .u64 co.num, .string co.text] 100) = wa at M4 ⊢
    have z0 := M4.out.box (.tail _ (.head _))
    obtain ⟨la, hla⟩ : ∃ la, la = lk ++ [co.kind % 256] := ⟨_, rfl⟩
    have HLA := Aside0.mk hla; clear hla
    go_wp2_with (((with_reducible refine gate_builtin (b := .append) (xs := #[.tmp 34, .tmp 38]) rfl ?_); at_builtin; refine Aside0.out ?_))
    refine ⟨?_⟩
    have MA := Aside0.mk (M4.out.allocAt (g := (wa).heap.size) rfl #[.int .u8 (co.kind % 256)] 5)
    refine bts_append (A := [_]) MA.out rfl (.tmp 34) (.tmp 38) 96 96 5 rfl Try.underlying96 (by kernel_rfl) (.slice (some ⟨(wa).heap.size, 0, none⟩) 1 1) ?aV ?aX 1 [co.kind % 256] (Src.byte Try.underlying96 (MA.out.blk (.head _))) (by simp; omega) ?_
    (case aV => first | rfl | (go_simp; done) | (go_simp; rfl))
    (case aX => first | rfl | (go_simp; done) | (go_simp; rfl))
    intro g2 cq2 W2 h
    have h := h.drop
    rw [← (HLA.out)] at h ⊢
    have M5 := Aside0.mk h; clear h MA M4
    clear z0
    have hla : la.length ≤ 2001 := by rw [HLA.out, List.length_append]; simp; omega
    have z0 := M5.out.box (.tail _ (.head _))
    by_cases k1 : co.kind = 1
    · have q1 : (co.kind == 1) = true := by simp [k1]
      have q2 : (co.kind == 2) = false := by simp [k1]
      have h8l := eight_len co.num 8
      have h8 := bytes_nums _ (eight_in co.num 8)
      have HE0 := Aside0.mk (show imgL1 x ++ flatTo constL x.consts (k + 1) = la ++ bytesOf (strOfNums (eightTo co.num 8)) from by
        rw [HS.out, ← List.append_assoc, ← HLK.out, HLA.out, h8]
        unfold constL
        rw [if_pos k1, List.append_assoc]
        rfl)
      clear k1 htx
      go_upto_region 10 with fail
      go_wp2_with fail
      refine (cEight co.num hnum.1 hnum.2 _).mono ?_
      rintro e w3 ⟨rfl, hb⟩
      have M6 := Aside0.mk (M5.out.step hb); clear hb M5
      obtain ⟨lb, hlb⟩ : ∃ lb, lb = la ++ bytesOf (strOfNums (eightTo co.num 8)) := ⟨_, rfl⟩
      have HLB := Aside0.mk hlb; clear hlb
      clear z0
      have hs8 : (strOfNums (eightTo co.num 8)).size = 8 := by rw [strOfNums_size, h8l]
      have z0 := M6.out.box (.tail _ (.head _))
      obtain ⟨cc, Wc, hkc, hM⟩ := conv_str w3 (strOfNums (eightTo co.num 8))
      have MA := Aside0.mk (hM _ _ M6.out); clear hM
      go_wp2_with (((with_reducible refine gate_builtin (b := .append) (xs := #[.tmp 43, .tmp 47]) rfl ?_); at_builtin; refine Aside0.out ?_))
      refine ⟨?_⟩
      refine bts_append (A := [_]) MA.out rfl (.tmp 43) (.tmp 47) 96 96 5 rfl Try.underlying96 (by kernel_rfl) (.slice (some ⟨(w3).heap.size, 0, none⟩) (strOfNums (eightTo co.num 8)).size cc) ?aV ?aX _ _ (Src.btsN Try.underlying96 (MA.out.bts (.head _)) (bytesOf_length _).symm) (by rw [bytesOf_length]; omega) ?_
      (case aV => first | rfl | (go_simp; done) | (go_simp; rfl))
      (case aX => first | rfl | (go_simp; done) | (go_simp; rfl))
      intro g2 cq2 W2 h
      have h := h.drop
      rw [← (HLB.out)] at h ⊢
      have M7 := Aside0.mk h; clear h MA hkc M6
      clear z0
      have z0 := M7.out.box (.tail _ (.head _))
      have HE := Aside0.mk (show lb = imgL1 x ++ flatTo constL x.consts (k + 1) from by rw [HE0.out, HLB.out])
      go_wp2
      go_roundw
      (case measure => simp [intOf]; omega)
      (case rel => first | exact ⟨k + 1, _, _, lb, rfl, by go_num, by omega, HE, Aside0.mk (Mem.mid (A := [_]) M7.out)⟩ | ((repeat apply Exists.intro); exact ⟨⟨k + 1, _, _, lb, rfl, by go_num, by omega, HE, Aside0.mk (Mem.mid (A := [_]) M7.out)⟩, rfl⟩))
    · have q1 : (co.kind == 1) = false := by simp [k1]
      by_cases k2 : co.kind = 2
      · have q2 : (co.kind == 2) = true := by simp [k2]
        have HE0 := Aside0.mk (show la ++ bytesOf (varB (co.text.size : Int) ++ co.text) = imgL1 x ++ flatTo constL x.consts (k + 1) from by
          rw [HS.out, ← List.append_assoc (imgL1 x), ← HLK.out, HLA.out, bytes_app]
          unfold constL
          rw [if_neg k1, if_pos k2]
          simp)
        clear k1 k2
        go_upto_region 12 with fail
        go_wp2_with fail
        refine (cShort co.text (by omega) _).mono ?_
        rintro e w3 ⟨rfl, hb⟩
        have M6 := Aside0.mk (M5.out.step hb); clear hb M5
        obtain ⟨lb, hlb⟩ : ∃ lb, lb = la ++ bytesOf (varB (co.text.size : Int) ++ co.text) := ⟨_, rfl⟩
        have HLB := Aside0.mk hlb; clear hlb
        clear z0
        have hvs := varB_size (co.text.size : Int)
        have hsz : (varB (co.text.size : Int) ++ co.text).size ≤ 50 := by rw [ByteArray.size_append]; omega
        have z0 := M6.out.box (.tail _ (.head _))
        obtain ⟨cc, Wc, hkc, hM⟩ := conv_str w3 (varB (co.text.size : Int) ++ co.text)
        have MA := Aside0.mk (hM _ _ M6.out); clear hM
        go_wp2_with (((with_reducible refine gate_builtin (b := .append) (xs := #[.tmp 52, .tmp 56]) rfl ?_); at_builtin; refine Aside0.out ?_))
        refine ⟨?_⟩
        refine bts_append (A := [_]) MA.out rfl (.tmp 52) (.tmp 56) 96 96 5 rfl Try.underlying96 (by kernel_rfl) (.slice (some ⟨(w3).heap.size, 0, none⟩) (varB (co.text.size : Int) ++ co.text).size cc) ?aV ?aX _ _ (Src.btsN Try.underlying96 (MA.out.bts (.head _)) (bytesOf_length _).symm) (by rw [bytesOf_length]; omega) ?_
        (case aV => first | rfl | (go_simp; done) | (go_simp; rfl))
        (case aX => first | rfl | (go_simp; done) | (go_simp; rfl))
        intro g2 cq2 W2 h
        have h := h.drop
        rw [← (HLB.out)] at h ⊢
        have M7 := Aside0.mk h; clear h MA hkc M6
        clear z0
        have HE := Aside0.mk (show lb = imgL1 x ++ flatTo constL x.consts (k + 1) from by rw [← HE0.out, HLB.out])
        go_wp2
        go_roundw
        (case measure => simp [intOf]; omega)
        (case rel => first | exact ⟨k + 1, _, _, lb, rfl, by go_num, by omega, HE, Aside0.mk (Mem.mid (A := [_]) M7.out)⟩ | ((repeat apply Exists.intro); exact ⟨⟨k + 1, _, _, lb, rfl, by go_num, by omega, HE, Aside0.mk (Mem.mid (A := [_]) M7.out)⟩, rfl⟩))
      · have q2 : (co.kind == 2) = false := by simp [k2]
        have HE := Aside0.mk (show la = imgL1 x ++ flatTo constL x.consts (k + 1) from by
          rw [HS.out, ← List.append_assoc, ← HLK.out, HLA.out]
          unfold constL
          rw [if_neg k1, if_neg k2])
        clear k1 k2
        go_wp2
        go_roundw
        (case measure => simp [intOf]; omega)
        (case rel => first | exact ⟨k + 1, _, _, la, rfl, by go_num, by omega, HE, Aside0.mk (Mem.mid (A := [_]) M5.out)⟩ | ((repeat apply Exists.intro); exact ⟨⟨k + 1, _, _, la, rfl, by go_num, by omega, HE, Aside0.mk (Mem.mid (A := [_]) M5.out)⟩, rfl⟩))
  have hle : ¬ (k : Int) < (x.consts.length : Int) := by omega
  obtain rfl : k = x.consts.length := by omega
  have hlk : lk.length ≤ 2000 := by
    rw [HLK.out, List.length_append]
    have h1 := imgL1_len x
    have h2 := constTo_len HI.out x.consts.length
    omega
  have HA := Aside0.mk (show imgL2 x = lk ++ bytesOf (varB (x.funcs.length : Int)) from by rw [HLK.out]; simp [imgL2, numsL])
  clear klt hk HLK
  have z1 := M3.out.box (.tail _ (.head _))
  go_upto_region 13 with fail
  go_wp2_with fail
  refine (cVarS (x.funcs.length : Int) _ (by omega) (by omega)).mono ?_
  rintro e w2 ⟨rfl, hb⟩
  have M4 := Aside0.mk (M3.out.step hb); clear hb M3
  have hv := varB_size (x.funcs.length : Int)
  obtain ⟨cc, Wc, hkc, hM⟩ := conv_str w2 (varB (x.funcs.length : Int))
  have MA := Aside0.mk (hM _ _ M4.out); clear hM
  go_wp2_with (((with_reducible refine gate_builtin (b := .append) (xs := #[.tmp 58, .tmp 63]) rfl ?_); at_builtin; refine Aside0.out ?_))
  refine ⟨?_⟩
  refine bts_append (A := [_]) MA.out rfl (.tmp 58) (.tmp 63) 96 96 5 rfl Try.underlying96 (by kernel_rfl) (.slice (some ⟨(w2).heap.size, 0, none⟩) (varB (x.funcs.length : Int)).size cc) ?aV ?aX _ _ (Src.btsN Try.underlying96 (MA.out.bts (.head _)) (bytesOf_length _).symm) (by rw [bytesOf_length]; omega) ?_
  (case aV => first | rfl | (go_simp; done) | (go_simp; rfl))
  (case aX => first | rfl | (go_simp; done) | (go_simp; rfl))
  intro g2 cq2 W2 h
  have h := h.drop
  rw [← (HA.out)] at h ⊢
  have M5 := Aside0.mk h; clear h MA hkc M4
  clear z1 HA hlk hle hv
  go_upto_region 15 with fail
  go_loopw [4, 7] (fun u v wx => ∃ (k g c : Nat) (lk : List Int), u = .slice (some ⟨g, 0, none⟩) lk.length c ∧ v = .int .i64 k ∧ k ≤ x.funcs.length ∧ Aside0 (lk = imgL2 x ++ flatTo funcL x.funcs k) ∧ Aside0 (Mem w wx [Hold.bts g c (lk), Hold.box w.heap.size #[.slice A0 x.funcs.length c0, .slice A1 x.consts.length c1] 37])) (fun _ v _ => x.funcs.length - (intOf v).toNat)
  case atStart => exact ⟨0, _, _, imgL2 x, rfl, rfl, by omega, ⟨by rw [flatTo_zero, List.append_nil]⟩, M5⟩
  case round =>
  clear M5
  obtain ⟨k, g, c, lk, rfl, rfl, hk, HLK, M5⟩ := hrel
  by_cases klt : k < x.funcs.length
  · skip
    have hlk : lk.length ≤ 70000 := by
      rw [HLK.out, List.length_append]
      have h1 := imgL2_len HI.out
      have h2 := funcTo_len HI.out k
      omega
    have hle : (k : Int) < (x.funcs.length : Int) := by omega
    have hk0 : (0 : Int) ≤ (k : Int) := by omega
    have HS := Aside0.mk (flatTo_succ zFunc funcL x.funcs klt)
    have OK := Aside0.mk (FOk.of (img_func HI.out (el_mem zFunc klt)))
    obtain ⟨af, A2, c2, A3, c3, A4, c4, haf, y0, y1, y2, y3, y4, ⟨l2, g2⟩, ⟨l3, g3⟩, ⟨l4, g4⟩⟩ := func_at6 G0.out k klt
    subst haf
    obtain ⟨fu, hfu⟩ : ∃ fu, fu = el zFunc x.funcs k := ⟨_, rfl⟩
    rw [← hfu] at HS OK y0 y1 y2 y3 y4 l2 g2 l3 g3 l4 g4
    clear hfu
    have y0 := pw_cell_below M5.out.below y0; have y1 := pw_cell_below M5.out.below y1; have y2 := pw_cell_below M5.out.below y2; have y3 := pw_cell_below M5.out.below y3; have y4 := pw_cell_below M5.out.below y4
    have G2 := Aside0.mk g2; have G3 := Aside0.mk g3; have G4 := Aside0.mk g4
    clear g2 g3 g4 l2 l3 l4
    obtain ⟨gf, hgf⟩ : ∃ gf : Nat, gf = wr.heap.size := ⟨_, rfl⟩
    have zx := M5.out.box (.tail _ (.head _))
    have M6 := Aside0.mk (M5.out.allocAt hgf #[.int .i64 fu.params, .int .i64 fu.regs, .slice A2 fu.caps.length c2, .slice A3 fu.code.length c3, .slice A4 fu.handlers.length c4] 73).swap2
    go_upto_region 18 with fail
    rw [← hgf]
    clear y0 y1 y2 y3 y4 M5 hgf zx
    generalize wr.alloc (.cells #[.int .i64 fu.params, .int .i64 fu.regs, .slice A2 fu.caps.length c2, .slice A3 fu.code.length c3, .slice A4 fu.handlers.length c4] 73) = wa at M6 ⊢
    have hp1 := OK.out.params; have hp2 := OK.out.regs; have hp3 := OK.out.caps
    have v1 := varB_size fu.params; have v2 := varB_size fu.regs; have v3 := varB_size (fu.caps.length : Int)
    have s1 : ¬ (9223372036854775807 < (varB fu.params).size + (varB fu.regs).size) := by omega
    have s2 : ¬ (9223372036854775807 < (varB fu.params ++ varB fu.regs).size + (varB (fu.caps.length : Int)).size) := by rw [ByteArray.size_append]; omega
    have s3 : ¬ (9223372036854775807 < (varB fu.params).size + (varB fu.regs).size + (varB (fu.caps.length : Int)).size) := by omega
    have szb : (varB fu.params ++ varB fu.regs ++ varB (fu.caps.length : Int)).size ≤ 15 := by rw [ByteArray.size_append, ByteArray.size_append]; omega
    obtain ⟨lF1, hlF1⟩ : ∃ lF1, lF1 = lk ++ bytesOf (varB fu.params ++ varB fu.regs ++ varB (fu.caps.length : Int)) := ⟨_, rfl⟩
    have HF0 := Aside0.mk hlF1; clear hlF1
    refine sz 16 (fun W => W.cell? ⟨gf, 0, none⟩ = some (.int .i64 fu.params) ∧ W.cell? ⟨gf, 1, none⟩ = some (.int .i64 fu.regs) ∧ W.cell? ⟨gf, 2, none⟩ = some (.slice A2 fu.caps.length c2)) [14] ibS.tab18 ibS.bits18 ⟨(M6.out.drew.box (.tail _ (.head _)) 0).trans rfl, (M6.out.drew.box (.tail _ (.head _)) 1).trans rfl, (M6.out.drew.box (.tail _ (.head _)) 2).trans rfl⟩ (fun HT_ HW_ hHeld => ?_)
    have MD := Aside0.mk M6.out.drew
    clear M6
    generalize hwd : World.drew _ = wd at MD hHeld ⊢
    clear hwd
    refine pz 0 77 ?_; refine pz 1 78 ?_; refine pz 4 81 ?_; refine pz 8 85 ?_; refine tz 2 79 ?_; refine tz 5 82 ?_; refine tz 9 86 ?_; refine pz 10 87 ?_
    refine ez 3 (some 80) (fun K hK => ?_)
    refine gz Try.func74 #[.int .i64 fu.params] ?_
    refine (cVarS fu.params _ (by omega) (by omega)).mono ?_; rintro e w10 ⟨rfl, hb⟩
    have MD := Aside0.mk (MD.out.step hb); clear hb
    refine ⟨_, rfl, ?_⟩
    refine hK.out _ _ ⟨(MD.out.box (.tail _ (.head _)) 0).trans rfl, (MD.out.box (.tail _ (.head _)) 1).trans rfl, (MD.out.box (.tail _ (.head _)) 2).trans rfl⟩ (fun hHeld => ?_); clear hK K; refine kz (some 80) ?_
    refine ez 6 (some 83) (fun K hK => ?_)
    refine gz Try.func74 #[.int .i64 fu.regs] ?_
    refine (cVarS fu.regs _ (by omega) (by omega)).mono ?_; rintro e w11 ⟨rfl, hb⟩
    have MD := Aside0.mk (MD.out.step hb); clear hb
    refine ⟨_, rfl, ?_⟩
    refine hK.out _ _ ⟨(MD.out.box (.tail _ (.head _)) 0).trans rfl, (MD.out.box (.tail _ (.head _)) 1).trans rfl, (MD.out.box (.tail _ (.head _)) 2).trans rfl⟩ (fun hHeld => ?_); clear hK K; refine kz (some 83) ?_
    refine pz 7 84 ?_
    refine ez 11 (some 88) (fun K hK => ?_)
    refine gz Try.func74 #[.int .i64 (fu.caps.length : Int)] ?_
    refine (cVarS (fu.caps.length : Int) _ (by omega) (by omega)).mono ?_; rintro e w12 ⟨rfl, hb⟩
    have MD := Aside0.mk (MD.out.step hb); clear hb
    refine ⟨_, rfl, ?_⟩
    refine hK.out _ _ ⟨(MD.out.box (.tail _ (.head _)) 0).trans rfl, (MD.out.box (.tail _ (.head _)) 1).trans rfl, (MD.out.box (.tail _ (.head _)) 2).trans rfl⟩ (fun hHeld => ?_); clear hK K; refine kz (some 88) ?_
    refine pz 12 89 ?_
    refine ez 13 (some 90) (fun K hK => ?_)
    obtain ⟨cc, Wc, hkc, hM⟩ := conv_str _ (varB fu.params ++ varB fu.regs ++ varB (fu.caps.length : Int))
    have MA := Aside0.mk (hM _ _ MD.out); clear hM
    have MC := MD; clear MD; have MD := Aside0.mk MA.out.drop
    refine value_ (w1 := ?_) (v := ?_) (by rfl) rfl ?_ ?_
    rotate_left 2
    · go_simp
      constructor
      · rfl
      · rfl
    refine hK.out _ _ ⟨(MD.out.box (.tail _ (.head _)) 0).trans rfl, (MD.out.box (.tail _ (.head _)) 1).trans rfl, (MD.out.box (.tail _ (.head _)) 2).trans rfl⟩ (fun hHeld => ?_); clear hK K; refine kz (some 90) ?_
    refine lz 14 (some 91) (fun K hK => ?_)
    refine bts_append_step (A := [_]) MA.out (by rfl) (.tmp 77) (.tmp 90) 96 96 5 rfl Try.underlying96 (by kernel_rfl) (.slice (some ⟨_, 0, none⟩) ((varB fu.params).size + (varB fu.regs).size + (varB (fu.caps.length : Int)).size) cc) ?aV ?aX _ _ (Src.btsN Try.underlying96 (MA.out.bts (.head _)) (by rw [bytesOf_length]; simp only [ByteArray.size_append])) (by rw [bytesOf_length]; omega) ?_
    (case aV => first | rfl | (go_simp; done) | (go_simp; rfl))
    (case aX => first | rfl | (go_simp; done) | (go_simp; rfl))
    intro g2 cq2 W2 h
    have h := h.drop
    rw [← (HF0.out)] at h ⊢
    have M7 := Aside0.mk h; clear h MA MC MD
    refine hK.out _ _ ?_; clear hK K; refine kz (some 91) ?_
    refine pz 15 4 ?_
    refine dz ?_
    clear HT_ HW_
    clear v1 v2 v3 s1 s2 s3 szb hHeld
    have HF1 := Aside0.mk (show lF1 = lk ++ funcL1 fu from by rw [HF0.out, bytes_app, bytes_app]; simp [funcL1, numsL])
    clear HF0
    have hlf1 : lF1.length ≤ 70015 := by
      rw [HF1.out, List.length_append]
      have := funcL1_len fu
      omega
    go_upto_region 20 with fail
    go_loopw [4, 9] (fun u v wx => ∃ (j g c : Nat) (lj : List Int), u = .slice (some ⟨g, 0, none⟩) lj.length c ∧ v = .int .i64 j ∧ j ≤ fu.caps.length ∧ Aside0 (lj = lF1 ++ flatTo capL fu.caps j) ∧ Aside0 (Mem w wx [Hold.bts g c (lj), Hold.box gf #[.int .i64 fu.params, .int .i64 fu.regs, .slice A2 fu.caps.length c2, .slice A3 fu.code.length c3, .slice A4 fu.handlers.length c4] 73, Hold.box w.heap.size #[.slice (some af) x.funcs.length c0, .slice A1 x.consts.length c1] 37])) (fun _ v _ => fu.caps.length - (intOf v).toNat)
    case atStart => exact ⟨0, _, _, lF1, rfl, rfl, by omega, ⟨by rw [flatTo_zero, List.append_nil]⟩, M7⟩
    case round =>
    clear M7
    obtain ⟨j, g, c, lj, rfl, rfl, hj, HLJ, M7⟩ := hrel
    by_cases jlt : j < fu.caps.length
    · skip
      have hlj : lj.length ≤ 70140 := by
        rw [HLJ.out, List.length_append]
        have h2 := flatTo_len capL fu.caps 6 (fun y _ => capL_len y) j
        omega
      have jle : (j : Int) < (fu.caps.length : Int) := by omega
      have hj0 : (0 : Int) ≤ (j : Int) := by omega
      have HSJ := Aside0.mk (flatTo_succ zCap capL fu.caps jlt)
      have hix := OK.out.cap _ (el_mem zCap jlt)
      obtain ⟨ap, hap, _, y0, y1⟩ := Cap_at G2.out j jlt
      subst hap
      obtain ⟨ca, hca⟩ : ∃ ca, ca = el zCap fu.caps j := ⟨_, rfl⟩
      rw [← hca] at HSJ hix y0 y1
      clear hca
      have Y0 := Aside0.mk y0; have Y1 := Aside0.mk y1; clear y0 y1
      have zf := M7.out.box (.tail _ (.head _))
      go_upto_region 22 with fail
      clear zf
      have v1 := varB_size ca.index
      have fs : (flagB ca.reg).size ≤ 1 := by cases ca.reg <;> exact Nat.le_refl 1
      have s1 : ¬ (9223372036854775807 < (flagB ca.reg).size + (varB ca.index).size) := by omega
      have szb : (flagB ca.reg ++ varB ca.index).size ≤ 6 := by rw [ByteArray.size_append]; omega
      obtain ⟨l3, hl3⟩ : ∃ l3, l3 = lj ++ bytesOf (flagB ca.reg ++ varB ca.index) := ⟨_, rfl⟩
      have HL3 := Aside0.mk hl3; clear hl3
      refine sz 19 (fun W => W.cell? ⟨gf, 2, none⟩ = some (.slice (some ap) fu.caps.length c2) ∧ W.cell? (ap.add (j * 2)) = some (.bool ca.reg) ∧ W.cell? ⟨(ap.add (j * 2)).block, (ap.add (j * 2)).off + 1, none⟩ = some (.int .i64 ca.index)) [17] ibS.tab22 ibS.bits22 ⟨(M7.out.drew.box (.tail _ (.head _)) 2).trans rfl, pw_cell_below M7.out.drew.below Y0.out, pw_cell_below M7.out.drew.below Y1.out⟩ (fun HT_ HW_ hHeld => ?_)
      have MD := Aside0.mk M7.out.drew
      clear M7
      generalize hwd : World.drew _ = wd at MD hHeld ⊢
      clear hwd
      refine pz 0 99 ?_; refine pz 1 100 ?_; refine pz 3 102 ?_; refine pz 8 107 ?_; refine pz 10 109 ?_; refine tz 2 101 ?_; refine pz 4 103 ?_; refine pz 5 104 ?_; refine tz 6 105 ?_; refine tz 9 108 ?_; refine pz 11 110 ?_; refine pz 12 111 ?_; refine tz 13 112 ?_
      refine ez 7 (some 106) (fun K hK => ?_)
      refine gz Try.func77 #[.bool ca.reg] ?_
      refine (cFlag ca.reg _).mono ?_; rintro e w10 ⟨rfl, hb⟩
      have MD := Aside0.mk (MD.out.step hb); clear hb
      refine ⟨_, rfl, ?_⟩
      refine hK.out _ _ ⟨(MD.out.box (.tail _ (.head _)) 2).trans rfl, pw_cell_below MD.out.below Y0.out, pw_cell_below MD.out.below Y1.out⟩ (fun hHeld => ?_); clear hK K; refine kz (some 106) ?_
      refine ez 14 (some 113) (fun K hK => ?_)
      refine gz Try.func74 #[.int .i64 ca.index] ?_
      refine (cVarS ca.index _ (by omega) (by omega)).mono ?_; rintro e w11 ⟨rfl, hb⟩
      have MD := Aside0.mk (MD.out.step hb); clear hb
      refine ⟨_, rfl, ?_⟩
      refine hK.out _ _ ⟨(MD.out.box (.tail _ (.head _)) 2).trans rfl, pw_cell_below MD.out.below Y0.out, pw_cell_below MD.out.below Y1.out⟩ (fun hHeld => ?_); clear hK K; refine kz (some 113) ?_
      refine pz 15 114 ?_
      refine ez 16 (some 115) (fun K hK => ?_)
      obtain ⟨cc, Wc, hkc, hM⟩ := conv_str _ (flagB ca.reg ++ varB ca.index)
      have MA := Aside0.mk (hM _ _ MD.out); clear hM
      have MC := MD; clear MD; have MD := Aside0.mk MA.out.drop
      refine value_ (w1 := ?_) (v := ?_) (by rfl) rfl ?_ ?_
      rotate_left 2
      · go_simp
        constructor
        · rfl
        · rfl
      refine hK.out _ _ ⟨(MD.out.box (.tail _ (.head _)) 2).trans rfl, pw_cell_below MD.out.below Y0.out, pw_cell_below MD.out.below Y1.out⟩ (fun hHeld => ?_); clear hK K; refine kz (some 115) ?_
      refine lz 17 (some 116) (fun K hK => ?_)
      refine bts_append_step (A := [_]) MA.out (by rfl) (.tmp 99) (.tmp 115) 96 96 5 rfl Try.underlying96 (by kernel_rfl) (.slice (some ⟨_, 0, none⟩) ((flagB ca.reg).size + (varB ca.index).size) cc) ?aV ?aX _ _ (Src.btsN Try.underlying96 (MA.out.bts (.head _)) (by rw [bytesOf_length]; simp only [ByteArray.size_append])) (by rw [bytesOf_length]; omega) ?_
      (case aV => first | rfl | (go_simp; done) | (go_simp; rfl))
      (case aX => first | rfl | (go_simp; done) | (go_simp; rfl))
      intro g2 cq2 W2 h
      have h := h.drop
      rw [← (HL3.out)] at h ⊢
      have M8 := Aside0.mk h; clear h MA MC MD
      refine hK.out _ _ ?_; clear hK K; refine kz (some 116) ?_
      refine pz 18 4 ?_
      refine dz ?_
      clear HT_ HW_
      clear v1 fs s1 szb hHeld
      have HE := Aside0.mk (show l3 = lF1 ++ flatTo capL fu.caps (j + 1) from by
        rw [HSJ.out, ← List.append_assoc, ← HLJ.out, HL3.out, bytes_app, bytes_flag]
        simp [capL, numsL])
      go_wp2
      go_roundw
      (case measure => simp [intOf]; omega)
      (case rel => first | exact ⟨j + 1, _, _, l3, rfl, by go_num, by omega, HE, M8⟩ | ((repeat apply Exists.intro); exact ⟨⟨j + 1, _, _, l3, rfl, by go_num, by omega, HE, M8⟩, rfl⟩))
    have jle : ¬ (j : Int) < (fu.caps.length : Int) := by omega
    obtain rfl : j = fu.caps.length := by omega
    clear jlt hj
    obtain ⟨lF2, hlF2⟩ : ∃ lF2, lF2 = lj ++ bytesOf (varB (fu.code.length : Int)) := ⟨_, rfl⟩
    have HA := Aside0.mk hlF2; clear hlF2
    have HF2 := Aside0.mk (show lF2 = lk ++ funcL2 fu from by rw [HA.out, HLJ.out, HF1.out]; simp [funcL2, numsL])
    have hlj : lj.length ≤ 70140 := by
      rw [HLJ.out, List.length_append]
      have h2 := flatTo_len capL fu.caps 6 (fun y _ => capL_len y) fu.caps.length
      omega
    clear HLJ
    have hp4 := OK.out.code
    have v1 := varB_size (fu.code.length : Int)
    have zf := M7.out.box (.tail _ (.head _))
    go_upto_region 23 with fail
    go_wp2_with fail
    refine (cVarS (fu.code.length : Int) _ (by omega) (by omega)).mono ?_
    rintro e w4 ⟨rfl, hb⟩
    have M8 := Aside0.mk (M7.out.step hb); clear hb M7
    obtain ⟨cc, Wc, hkc, hM⟩ := conv_str w4 (varB (fu.code.length : Int))
    have MA := Aside0.mk (hM _ _ M8.out); clear hM
    go_wp2_with (((with_reducible refine gate_builtin (b := .append) (xs := #[.tmp 117, .tmp 122]) rfl ?_); at_builtin; refine Aside0.out ?_))
    refine ⟨?_⟩
    refine bts_append (A := [_]) MA.out rfl (.tmp 117) (.tmp 122) 96 96 5 rfl Try.underlying96 (by kernel_rfl) (.slice (some ⟨(w4).heap.size, 0, none⟩) (varB (fu.code.length : Int)).size cc) ?aV ?aX _ _ (Src.btsN Try.underlying96 (MA.out.bts (.head _)) (bytesOf_length _).symm) (by rw [bytesOf_length]; omega) ?_
    (case aV => first | rfl | (go_simp; done) | (go_simp; rfl))
    (case aX => first | rfl | (go_simp; done) | (go_simp; rfl))
    intro g2 cq2 W2 h
    have h := h.drop
    rw [← (HA.out)] at h ⊢
    have M9 := Aside0.mk h; clear h MA hkc M8
    clear zf HA hlj jle v1
    have hlf2 : lF2.length ≤ 70200 := by
      rw [HF2.out, List.length_append]
      have := funcL2_len OK.out
      omega
    go_upto_region 25 with fail
    go_loopw [4, 10] (fun u v wx => ∃ (j g c : Nat) (lj : List Int), u = .slice (some ⟨g, 0, none⟩) lj.length c ∧ v = .int .i64 j ∧ j ≤ fu.code.length ∧ Aside0 (lj = lF2 ++ flatTo insL fu.code j) ∧ Aside0 (Mem w wx [Hold.bts g c (lj), Hold.box gf #[.int .i64 fu.params, .int .i64 fu.regs, .slice A2 fu.caps.length c2, .slice A3 fu.code.length c3, .slice A4 fu.handlers.length c4] 73, Hold.box w.heap.size #[.slice (some af) x.funcs.length c0, .slice A1 x.consts.length c1] 37])) (fun _ v _ => fu.code.length - (intOf v).toNat)
    case atStart => exact ⟨0, _, _, lF2, rfl, rfl, by omega, ⟨by rw [flatTo_zero, List.append_nil]⟩, M9⟩
    case round =>
    clear M9
    obtain ⟨j, g, c, lj, rfl, rfl, hj, HLJ, M9⟩ := hrel
    by_cases jlt : j < fu.code.length
    · skip
      have hlj : lj.length ≤ 73600 := by
        rw [HLJ.out, List.length_append]
        have h2 := flatTo_len insL fu.code 11 (fun y _ => insL_len y) j
        omega
      have jle : (j : Int) < (fu.code.length : Int) := by omega
      have hj0 : (0 : Int) ≤ (j : Int) := by omega
      have HSJ := Aside0.mk (flatTo_succ zIns insL fu.code jlt)
      have hix := OK.out.ins _ (el_mem zIns jlt)
      obtain ⟨ap, hap, _, y0, y1, y2⟩ := Ins_at G3.out j jlt
      subst hap
      obtain ⟨ca, hca⟩ : ∃ ca, ca = el zIns fu.code j := ⟨_, rfl⟩
      rw [← hca] at HSJ hix y0 y1 y2
      clear hca
      have Y1 := Aside0.mk y1; have Y2 := Aside0.mk y2; clear y1 y2
      have y0 := pw_cell_below M9.out.below y0
      have zf := M9.out.box (.tail _ (.head _))
      go_upto_region 27 with fail
      obtain ⟨la, hla⟩ : ∃ la, la = lj ++ [ca.op % 256] := ⟨_, rfl⟩
      have HLA := Aside0.mk hla; clear hla
      go_wp2_with (((with_reducible refine gate_builtin (b := .append) (xs := #[.tmp 131, .tmp 139]) rfl ?_); at_builtin; refine Aside0.out ?_))
      refine ⟨?_⟩
      have MA := Aside0.mk (M9.out.allocAt (g := (wr).heap.size) rfl #[.int .u8 (ca.op % 256)] 5)
      refine bts_append (A := [_]) MA.out rfl (.tmp 131) (.tmp 139) 96 96 5 rfl Try.underlying96 (by kernel_rfl) (.slice (some ⟨(wr).heap.size, 0, none⟩) 1 1) ?aV ?aX 1 [ca.op % 256] (Src.byte Try.underlying96 (MA.out.blk (.head _))) (by simp; omega) ?_
      (case aV => first | rfl | (go_simp; done) | (go_simp; rfl))
      (case aX => first | rfl | (go_simp; done) | (go_simp; rfl))
      intro g2 cq2 W2 h
      have h := h.drop
      rw [← (HLA.out)] at h ⊢
      have M10 := Aside0.mk h; clear h MA M9
      clear y0 zf
      have hla : la.length ≤ 73601 := by rw [HLA.out, List.length_append]; simp; omega
      go_upto_region 28 with fail
      have v1 := varB_size ca.a; have v2 := varB_size ca.b
      have s1 : ¬ (9223372036854775807 < (varB ca.a).size + (varB ca.b).size) := by omega
      have szb : (varB ca.a ++ varB ca.b).size ≤ 10 := by rw [ByteArray.size_append]; omega
      obtain ⟨l3, hl3⟩ : ∃ l3, l3 = la ++ bytesOf (varB ca.a ++ varB ca.b) := ⟨_, rfl⟩
      have HL3 := Aside0.mk hl3; clear hl3
      refine sz 19 (fun W => W.cell? ⟨gf, 3, none⟩ = some (.slice (some ap) fu.code.length c3) ∧ W.cell? ⟨(ap.add (j * 3)).block, (ap.add (j * 3)).off + 1, none⟩ = some (.int .i64 ca.a) ∧ W.cell? ⟨(ap.add (j * 3)).block, (ap.add (j * 3)).off + 2, none⟩ = some (.int .i64 ca.b)) [17] ibS.tab28 ibS.bits28 ⟨(M10.out.drew.box (.tail _ (.head _)) 3).trans rfl, pw_cell_below M10.out.drew.below Y1.out, pw_cell_below M10.out.drew.below Y2.out⟩ (fun HT_ HW_ hHeld => ?_)
      have MD := Aside0.mk M10.out.drew
      clear M10
      generalize hwd : World.drew _ = wd at MD hHeld ⊢
      clear hwd
      refine pz 0 141 ?_; refine pz 1 142 ?_; refine pz 3 144 ?_; refine pz 8 149 ?_; refine pz 10 151 ?_; refine tz 2 143 ?_; refine pz 4 145 ?_; refine pz 5 146 ?_; refine tz 6 147 ?_; refine tz 9 150 ?_; refine pz 11 152 ?_; refine pz 12 153 ?_; refine tz 13 154 ?_
      refine ez 7 (some 148) (fun K hK => ?_)
      refine gz Try.func74 #[.int .i64 ca.a] ?_
      refine (cVarS ca.a _ (by omega) (by omega)).mono ?_; rintro e w10 ⟨rfl, hb⟩
      have MD := Aside0.mk (MD.out.step hb); clear hb
      refine ⟨_, rfl, ?_⟩
      refine hK.out _ _ ⟨(MD.out.box (.tail _ (.head _)) 3).trans rfl, pw_cell_below MD.out.below Y1.out, pw_cell_below MD.out.below Y2.out⟩ (fun hHeld => ?_); clear hK K; refine kz (some 148) ?_
      refine ez 14 (some 155) (fun K hK => ?_)
      refine gz Try.func74 #[.int .i64 ca.b] ?_
      refine (cVarS ca.b _ (by omega) (by omega)).mono ?_; rintro e w11 ⟨rfl, hb⟩
      have MD := Aside0.mk (MD.out.step hb); clear hb
      refine ⟨_, rfl, ?_⟩
      refine hK.out _ _ ⟨(MD.out.box (.tail _ (.head _)) 3).trans rfl, pw_cell_below MD.out.below Y1.out, pw_cell_below MD.out.below Y2.out⟩ (fun hHeld => ?_); clear hK K; refine kz (some 155) ?_
      refine pz 15 156 ?_
      refine ez 16 (some 157) (fun K hK => ?_)
      obtain ⟨cc, Wc, hkc, hM⟩ := conv_str _ (varB ca.a ++ varB ca.b)
      have MA := Aside0.mk (hM _ _ MD.out); clear hM
      have MC := MD; clear MD; have MD := Aside0.mk MA.out.drop
      refine value_ (w1 := ?_) (v := ?_) (by rfl) rfl ?_ ?_
      rotate_left 2
      · go_simp
        constructor
        · rfl
        · rfl
      refine hK.out _ _ ⟨(MD.out.box (.tail _ (.head _)) 3).trans rfl, pw_cell_below MD.out.below Y1.out, pw_cell_below MD.out.below Y2.out⟩ (fun hHeld => ?_); clear hK K; refine kz (some 157) ?_
      refine lz 17 (some 158) (fun K hK => ?_)
      refine bts_append_step (A := [_]) MA.out (by rfl) (.tmp 141) (.tmp 157) 96 96 5 rfl Try.underlying96 (by kernel_rfl) (.slice (some ⟨_, 0, none⟩) ((varB ca.a).size + (varB ca.b).size) cc) ?aV ?aX _ _ (Src.btsN Try.underlying96 (MA.out.bts (.head _)) (by rw [bytesOf_length]; simp only [ByteArray.size_append])) (by rw [bytesOf_length]; omega) ?_
      (case aV => first | rfl | (go_simp; done) | (go_simp; rfl))
      (case aX => first | rfl | (go_simp; done) | (go_simp; rfl))
      intro g2 cq2 W2 h
      have h := h.drop
      rw [← (HL3.out)] at h ⊢
      have M11 := Aside0.mk h; clear h MA MC MD
      refine hK.out _ _ ?_; clear hK K; refine kz (some 158) ?_
      refine pz 18 4 ?_
      refine dz ?_
      clear HT_ HW_
      clear v1 v2 s1 szb hHeld
      have HE := Aside0.mk (show l3 = lF2 ++ flatTo insL fu.code (j + 1) from by
        rw [HSJ.out, ← List.append_assoc, ← HLJ.out, HL3.out, HLA.out, bytes_app]
        simp [insL, numsL])
      go_wp2
      go_roundw
      (case measure => simp [intOf]; omega)
      (case rel => first | exact ⟨j + 1, _, _, l3, rfl, by go_num, by omega, HE, M11⟩ | ((repeat apply Exists.intro); exact ⟨⟨j + 1, _, _, l3, rfl, by go_num, by omega, HE, M11⟩, rfl⟩))
    have jle : ¬ (j : Int) < (fu.code.length : Int) := by omega
    obtain rfl : j = fu.code.length := by omega
    clear jlt hj
    obtain ⟨lF3, hlF3⟩ : ∃ lF3, lF3 = lj ++ bytesOf (varB (fu.handlers.length : Int)) := ⟨_, rfl⟩
    have HA := Aside0.mk hlF3; clear hlF3
    have HF3 := Aside0.mk (show lF3 = lk ++ funcL3 fu from by rw [HA.out, HLJ.out, HF2.out]; simp [funcL3, numsL])
    have hlj : lj.length ≤ 73600 := by
      rw [HLJ.out, List.length_append]
      have h2 := flatTo_len insL fu.code 11 (fun y _ => insL_len y) fu.code.length
      omega
    clear HLJ
    have hp5 := OK.out.hands
    have v1 := varB_size (fu.handlers.length : Int)
    have zf := M9.out.box (.tail _ (.head _))
    go_upto_region 29 with fail
    go_wp2_with fail
    refine (cVarS (fu.handlers.length : Int) _ (by omega) (by omega)).mono ?_
    rintro e w5 ⟨rfl, hb⟩
    have M10 := Aside0.mk (M9.out.step hb); clear hb M9
    obtain ⟨cc, Wc, hkc, hM⟩ := conv_str w5 (varB (fu.handlers.length : Int))
    have MA := Aside0.mk (hM _ _ M10.out); clear hM
    go_wp2_with (((with_reducible refine gate_builtin (b := .append) (xs := #[.tmp 159, .tmp 164]) rfl ?_); at_builtin; refine Aside0.out ?_))
    refine ⟨?_⟩
    refine bts_append (A := [_]) MA.out rfl (.tmp 159) (.tmp 164) 96 96 5 rfl Try.underlying96 (by kernel_rfl) (.slice (some ⟨(w5).heap.size, 0, none⟩) (varB (fu.handlers.length : Int)).size cc) ?aV ?aX _ _ (Src.btsN Try.underlying96 (MA.out.bts (.head _)) (bytesOf_length _).symm) (by rw [bytesOf_length]; omega) ?_
    (case aV => first | rfl | (go_simp; done) | (go_simp; rfl))
    (case aX => first | rfl | (go_simp; done) | (go_simp; rfl))
    intro g2 cq2 W2 h
    have h := h.drop
    rw [← (HA.out)] at h ⊢
    have M11 := Aside0.mk h; clear h MA hkc M10
    clear zf HA hlj jle v1
    have hlf3 : lF3.length ≤ 73500 := by
      rw [HF3.out, List.length_append]
      have := funcL3_len OK.out
      omega
    go_upto_region 31 with fail
    go_loopw [4, 11] (fun u v wx => ∃ (j g c : Nat) (lj : List Int), u = .slice (some ⟨g, 0, none⟩) lj.length c ∧ v = .int .i64 j ∧ j ≤ fu.handlers.length ∧ Aside0 (lj = lF3 ++ flatTo handL fu.handlers j) ∧ Aside0 (Mem w wx [Hold.bts g c (lj), Hold.box gf #[.int .i64 fu.params, .int .i64 fu.regs, .slice A2 fu.caps.length c2, .slice A3 fu.code.length c3, .slice A4 fu.handlers.length c4] 73, Hold.box w.heap.size #[.slice (some af) x.funcs.length c0, .slice A1 x.consts.length c1] 37])) (fun _ v _ => fu.handlers.length - (intOf v).toNat)
    case atStart => exact ⟨0, _, _, lF3, rfl, rfl, by omega, ⟨by rw [flatTo_zero, List.append_nil]⟩, M11⟩
    case round =>
    clear M11
    obtain ⟨j, g, c, lj, rfl, rfl, hj, HLJ, M11⟩ := hrel
    by_cases jlt : j < fu.handlers.length
    · skip
      have hlj : lj.length ≤ 74200 := by
        rw [HLJ.out, List.length_append]
        have h2 := flatTo_len handL fu.handlers 15 (fun y _ => handL_len y) j
        omega
      have jle : (j : Int) < (fu.handlers.length : Int) := by omega
      have hj0 : (0 : Int) ≤ (j : Int) := by omega
      have HSJ := Aside0.mk (flatTo_succ zHandler handL fu.handlers jlt)
      have hix := OK.out.hand _ (el_mem zHandler jlt)
      obtain ⟨ap, hap, _, y0, y1, y2⟩ := Handler_at (Kd.C_below G4.out M11.out.below) j jlt
      subst hap
      obtain ⟨ca, hca⟩ : ∃ ca, ca = el zHandler fu.handlers j := ⟨_, rfl⟩
      rw [← hca] at HSJ hix y0 y1 y2
      clear hca
      have zf := M11.out.box (.tail _ (.head _))
      obtain ⟨gc, hgc⟩ : ∃ gc : Nat, gc = wr.heap.size := ⟨_, rfl⟩
      have M12 := Aside0.mk (M11.out.allocAt hgc #[.int .i64 ca.from_, .int .i64 ca.to_, .int .i64 ca.target] 107).swap2
      go_upto_region 34 with fail
      rw [← hgc]
      clear y0 y1 y2 M11 hgc zf
      generalize wr.alloc (.cells #[.int .i64 ca.from_, .int .i64 ca.to_, .int .i64 ca.target] 107) = wb at M12 ⊢
      have v1 := varB_size ca.from_; have v2 := varB_size ca.to_; have v3 := varB_size ca.target
      have s1 : ¬ (9223372036854775807 < (varB ca.from_).size + (varB ca.to_).size) := by omega
      have s2 : ¬ (9223372036854775807 < (varB ca.from_ ++ varB ca.to_).size + (varB ca.target).size) := by rw [ByteArray.size_append]; omega
      have s3 : ¬ (9223372036854775807 < (varB ca.from_).size + (varB ca.to_).size + (varB ca.target).size) := by omega
      have szb : (varB ca.from_ ++ varB ca.to_ ++ varB ca.target).size ≤ 15 := by rw [ByteArray.size_append, ByteArray.size_append]; omega
      obtain ⟨l3, hl3⟩ : ∃ l3, l3 = lj ++ bytesOf (varB ca.from_ ++ varB ca.to_ ++ varB ca.target) := ⟨_, rfl⟩
      have HL3 := Aside0.mk hl3; clear hl3
      refine sz 15 (fun W => W.cell? ⟨gc, 0, none⟩ = some (.int .i64 ca.from_) ∧ W.cell? ⟨gc, 1, none⟩ = some (.int .i64 ca.to_) ∧ W.cell? ⟨gc, 2, none⟩ = some (.int .i64 ca.target)) [13] ibS.tab34 ibS.bits34 ⟨(M12.out.drew.box (.tail _ (.head _)) 0).trans rfl, (M12.out.drew.box (.tail _ (.head _)) 1).trans rfl, (M12.out.drew.box (.tail _ (.head _)) 2).trans rfl⟩ (fun HT_ HW_ hHeld => ?_)
      have MD := Aside0.mk M12.out.drew
      clear M12
      generalize hwd : World.drew _ = wd at MD hHeld ⊢
      clear hwd
      refine pz 0 178 ?_; refine pz 1 179 ?_; refine pz 4 182 ?_; refine pz 8 186 ?_; refine tz 2 180 ?_; refine tz 5 183 ?_; refine tz 9 187 ?_
      refine ez 3 (some 181) (fun K hK => ?_)
      refine gz Try.func74 #[.int .i64 ca.from_] ?_
      refine (cVarS ca.from_ _ (by omega) (by omega)).mono ?_; rintro e w10 ⟨rfl, hb⟩
      have MD := Aside0.mk (MD.out.step hb); clear hb
      refine ⟨_, rfl, ?_⟩
      refine hK.out _ _ ⟨(MD.out.box (.tail _ (.head _)) 0).trans rfl, (MD.out.box (.tail _ (.head _)) 1).trans rfl, (MD.out.box (.tail _ (.head _)) 2).trans rfl⟩ (fun hHeld => ?_); clear hK K; refine kz (some 181) ?_
      refine ez 6 (some 184) (fun K hK => ?_)
      refine gz Try.func74 #[.int .i64 ca.to_] ?_
      refine (cVarS ca.to_ _ (by omega) (by omega)).mono ?_; rintro e w11 ⟨rfl, hb⟩
      have MD := Aside0.mk (MD.out.step hb); clear hb
      refine ⟨_, rfl, ?_⟩
      refine hK.out _ _ ⟨(MD.out.box (.tail _ (.head _)) 0).trans rfl, (MD.out.box (.tail _ (.head _)) 1).trans rfl, (MD.out.box (.tail _ (.head _)) 2).trans rfl⟩ (fun hHeld => ?_); clear hK K; refine kz (some 184) ?_
      refine pz 7 185 ?_
      refine ez 10 (some 188) (fun K hK => ?_)
      refine gz Try.func74 #[.int .i64 ca.target] ?_
      refine (cVarS ca.target _ (by omega) (by omega)).mono ?_; rintro e w12 ⟨rfl, hb⟩
      have MD := Aside0.mk (MD.out.step hb); clear hb
      refine ⟨_, rfl, ?_⟩
      refine hK.out _ _ ⟨(MD.out.box (.tail _ (.head _)) 0).trans rfl, (MD.out.box (.tail _ (.head _)) 1).trans rfl, (MD.out.box (.tail _ (.head _)) 2).trans rfl⟩ (fun hHeld => ?_); clear hK K; refine kz (some 188) ?_
      refine pz 11 189 ?_
      refine ez 12 (some 190) (fun K hK => ?_)
      obtain ⟨cc, Wc, hkc, hM⟩ := conv_str _ (varB ca.from_ ++ varB ca.to_ ++ varB ca.target)
      have MA := Aside0.mk (hM _ _ MD.out); clear hM
      have MC := MD; clear MD; have MD := Aside0.mk MA.out.drop
      refine value_ (w1 := ?_) (v := ?_) (by rfl) rfl ?_ ?_
      rotate_left 2
      · go_simp
        constructor
        · rfl
        · rfl
      refine hK.out _ _ ⟨(MD.out.box (.tail _ (.head _)) 0).trans rfl, (MD.out.box (.tail _ (.head _)) 1).trans rfl, (MD.out.box (.tail _ (.head _)) 2).trans rfl⟩ (fun hHeld => ?_); clear hK K; refine kz (some 190) ?_
      refine lz 13 (some 191) (fun K hK => ?_)
      refine bts_append_step (A := [_]) MA.out (by rfl) (.tmp 178) (.tmp 190) 96 96 5 rfl Try.underlying96 (by kernel_rfl) (.slice (some ⟨_, 0, none⟩) ((varB ca.from_).size + (varB ca.to_).size + (varB ca.target).size) cc) ?aV ?aX _ _ (Src.btsN Try.underlying96 (MA.out.bts (.head _)) (by rw [bytesOf_length]; simp only [ByteArray.size_append])) (by rw [bytesOf_length]; omega) ?_
      (case aV => first | rfl | (go_simp; done) | (go_simp; rfl))
      (case aX => first | rfl | (go_simp; done) | (go_simp; rfl))
      intro g2 cq2 W2 h
      have h := h.drop
      rw [← (HL3.out)] at h ⊢
      have M13 := Aside0.mk h; clear h MA MC MD
      refine hK.out _ _ ?_; clear hK K; refine kz (some 191) ?_
      refine pz 14 4 ?_
      refine dz ?_
      clear HT_ HW_
      clear v1 v2 v3 s1 s2 s3 szb hHeld
      have HE := Aside0.mk (show l3 = lF3 ++ flatTo handL fu.handlers (j + 1) from by
        rw [HSJ.out, ← List.append_assoc, ← HLJ.out, HL3.out, bytes_app, bytes_app]
        simp [handL, numsL])
      go_wp2
      go_roundw
      (case measure => simp [intOf]; omega)
      (case rel => first | exact ⟨j + 1, _, _, l3, rfl, by go_num, by omega, HE, Aside0.mk (Mem.mid (A := [_]) M13.out)⟩ | ((repeat apply Exists.intro); exact ⟨⟨j + 1, _, _, l3, rfl, by go_num, by omega, HE, Aside0.mk (Mem.mid (A := [_]) M13.out)⟩, rfl⟩))
    have jle : ¬ (j : Int) < (fu.handlers.length : Int) := by omega
    obtain rfl : j = fu.handlers.length := by omega
    have zf := M11.out.box (.tail _ (.head _))
    have HE := Aside0.mk (show lj = imgL2 x ++ flatTo funcL x.funcs (k + 1) from by
      rw [HLJ.out, HF3.out, HS.out, HLK.out]
      simp [funcL])
    go_wp2
    go_roundw
    (case measure => simp [intOf]; omega)
    (case rel => first | exact ⟨k + 1, _, _, lj, rfl, by go_num, by omega, HE, Aside0.mk (Mem.mid (A := [_]) M11.out)⟩ | ((repeat apply Exists.intro); exact ⟨⟨k + 1, _, _, lj, rfl, by go_num, by omega, HE, Aside0.mk (Mem.mid (A := [_]) M11.out)⟩, rfl⟩))
  have hle : ¬ (k : Int) < (x.funcs.length : Int) := by omega
  obtain rfl : k = x.funcs.length := by omega
  have hlk : lk.length ≤ 70000 := by
    rw [HLK.out, List.length_append]
    have h1 := imgL2_len HI.out
    have h2 := funcTo_len HI.out x.funcs.length
    omega
  have HX := Aside0.mk (show lk = imgL x from HLK.out)
  have hR := HR.out
  have hS := HSE.out
  rw [← HX.out] at hR hS
  have HSE := Aside0.mk hS; clear hS
  have zx := M5.out.box (.tail _ (.head _))
  by_cases hbig : ((lk.length : Int) + 4 > 12000)
  · rw [if_pos hbig] at hR
    have HR := Aside0.mk hR; clear hR
    go_wp2
    go_ret2
    exact ⟨by rw [HR.out]; rfl, M5.out.below⟩
  rw [if_neg hbig] at hR
  have HR := Aside0.mk hR; clear hR
  have ks := Kd.C_string (P := Try.prog) (src := 96) (dst := 9) (e := 5) (c := c) Try.underlying96 Try.underlying5 Try.underlying9 ((M5.out.bts (.head _)).reads (by omega))
  go_upto_region 37 with fail
  go_wp2_with fail
  refine (HSE.out _).mono ?_
  rintro e w6 ⟨rfl, hb⟩
  have M6 := Aside0.mk (M5.out.step hb); clear hb ks
  go_wp2
  go_ret2
  exact ⟨by rw [HR.out]; rfl, M6.out.below⟩
end Go.Proofs.Ytcbaokflimdjnaa.Law
end
section
namespace Go.Proofs.Ytcbaokflimdjnaa.Law
open Go.RowKit Go.Proofs.YtcbaokflimdjnaaW.PrintWords Go.Proofs.YtcbaokflimdjnaaW.PrintLast Go.Proofs.YtcbaokflimdjnaaW.PrintMore Go.Proofs.Ytcbaokflimdjnaa.Num Go.Proofs.Ytcbaokflimdjnaa
set_option linter.unusedVariables false
set_option linter.unusedSimpArgs false
set_option autoImplicit false
set_option maxHeartbeats 4000000 in
set_option maxRecDepth 100000 in
theorem cImgI (x : Image) (t : ByteArray) (b : Bool) (A0 : Option Addr) (c0 : Nat) (A1 : Option Addr) (c1 : Nat) (w : World) (hs : ∀ w : World, Calls Try.prog 80 #[.string (strOfNums (imgL x))] w fun e w' => e = .returned (.tuple #[.string t, .bool b]) ∧ Below w.heap.size w w') (l0 : x.funcs.length ≤ c0) (g0 : kFuncI.C w A0 x.funcs.length x.funcs) (l1 : x.consts.length ≤ c1) (g1 : kConst.C w A1 x.consts.length x.consts) (hn : ∀ y ∈ x.consts, 0 ≤ y.num ∧ y.num < 18446744073709551616) :
    Calls Try.prog 46 #[.agg #[.slice A0 x.funcs.length c0, .slice A1 x.consts.length c1]] w fun e w' => e = .returned (.tuple #[.string (imgR x t b).1, .bool (imgR x t b).2]) ∧ Below w.heap.size w w' := by
  have hu := Try.underlying37
  have G0 := Aside0.mk g0; have G1 := Aside0.mk g1; have HN := Aside0.mk hn; have L0 := Aside0.mk l0; have L1 := Aside0.mk l1; have HSE := Aside0.mk hs
  clear g0 g1 hn l0 l1 hs
  have M0 := Aside0.mk ((Mem.start w).allocAt rfl #[.slice A0 x.funcs.length c0, .slice A1 x.consts.length c1] 37)
  have z := M0.out.box (.head _)
  go_enter Try.func46, Try.ntmps46
  go_wp2_with fail
  refine (cImageOkI x A0 c0 A1 c1 _ L0.out (Kd.C_below G0.out M0.out.below) L1.out (Kd.C_below G1.out M0.out.below) HN.out).mono ?_
  rintro e w1 ⟨rfl, hb⟩
  have M1 := Aside0.mk (M0.out.step hb); clear hb M0 z
  rcases Bool.eq_false_or_eq_true (imgB x) with hi | hi
  rotate_left
  · rw [hi]
    have HR := Aside0.mk (show imgR x t b = (⟨#[]⟩, false) from if_neg (by rw [hi]; decide))
    clear hi
    go_wp2
    go_ret2
    exact ⟨by rw [HR.out]; rfl, M1.out.below⟩
  rw [hi]
  have HI := Aside0.mk hi
  have HR := Aside0.mk (show imgR x t b = if ((imgL x).length : Int) + 4 > 12000 then (⟨#[]⟩, false) else (t, b) from if_pos hi)
  clear hi
  have z1 := M1.out.box (.head _)
  go_upto_region 3 with fail
  go_wp2_with fail
  refine (cBytesI x A0 c0 A1 c1 _ HI.out L0.out (Kd.C_below G0.out M1.out.below) L1.out (Kd.C_below G1.out M1.out.below) HN.out).mono ?_
  rintro e w2 ⟨rfl, hb⟩
  have M2 := Aside0.mk (M1.out.step hb); clear hb M1 z1
  have hsz := strOfNums_size (imgL x)
  have hS := HSE.out; have hR := HR.out
  have hbd : (imgL x).length ≤ 70000 := by
    unfold imgL
    rw [List.length_append]
    have h1 := imgL2_len HI.out
    have h2 := funcTo_len HI.out x.funcs.length
    have h3 := (img_len HI.out).2.1
    omega
  rw [← hsz] at hR hbd
  generalize strOfNums (imgL x) = s at hS hR hbd ⊢
  have HSE := Aside0.mk hS; clear hS hsz
  by_cases hbig : ((s.size : Int) + 4 > 12000)
  · rw [if_pos hbig] at hR
    have HR := Aside0.mk hR; clear hR
    go_wp2
    go_ret2
    exact ⟨by rw [HR.out]; rfl, M2.out.below⟩
  rw [if_neg hbig] at hR
  have HR := Aside0.mk hR; clear hR
  go_upto_region 6 with fail
  go_wp2_with fail
  refine (HSE.out _).mono ?_
  rintro e w6 ⟨rfl, hb⟩
  have M6 := Aside0.mk (M2.out.step hb); clear hb
  go_wp2
  go_ret2
  exact ⟨by rw [HR.out]; rfl, M6.out.below⟩
/-- Both ImageText answer alike. -/
theorem imgText (x : Image) : ∃ (t : ByteArray) (b : Bool),
    (∀ (A0 : Option Addr) (c0 : Nat) (A1 : Option Addr) (c1 : Nat) (w : World), x.funcs.length ≤ c0 → kFuncI.C w A0 x.funcs.length x.funcs → x.consts.length ≤ c1 → kConst.C w A1 x.consts.length x.consts → (∀ y ∈ x.consts, 0 ≤ y.num ∧ y.num < 18446744073709551616) →
      Calls Try.prog 45 #[.agg #[.slice A0 x.funcs.length c0, .slice A1 x.consts.length c1]] w fun e w' => e = .returned (.tuple #[.string (imgR x t b).1, .bool (imgR x t b).2]) ∧ Below w.heap.size w w') ∧
    (∀ (A0 : Option Addr) (c0 : Nat) (A1 : Option Addr) (c1 : Nat) (w : World), x.funcs.length ≤ c0 → kFuncI.C w A0 x.funcs.length x.funcs → x.consts.length ≤ c1 → kConst.C w A1 x.consts.length x.consts → (∀ y ∈ x.consts, 0 ≤ y.num ∧ y.num < 18446744073709551616) →
      Calls Try.prog 46 #[.agg #[.slice A0 x.funcs.length c0, .slice A1 x.consts.length c1]] w fun e w' => e = .returned (.tuple #[.string (imgR x t b).1, .bool (imgR x t b).2]) ∧ Below w.heap.size w w') := by
  obtain ⟨t, b, h1, h2⟩ := cSeal (strOfNums (imgL x))
  exact ⟨t, b, fun A0 c0 A1 c1 w l0 g0 l1 g1 hn => cImgS x t b A0 c0 A1 c1 w h1 l0 g0 l1 g1 hn, fun A0 c0 A1 c1 w l0 g0 l1 g1 hn => cImgI x t b A0 c0 A1 c1 w h2 l0 g0 l1 g1 hn⟩
end Go.Proofs.Ytcbaokflimdjnaa.Law
end
section
namespace Go.Proofs.Ytcbaokflimdjnaa
open Go.RowKit Go.Proofs.YtcbaokflimdjnaaW.PrintWords Go.Proofs.YtcbaokflimdjnaaW.PrintMore Go.Proofs.Ytcbaokflimdjnaa.Law Go.Proofs.Ytcbaokflimdjnaa.Num
set_option linter.unusedVariables false
set_option linter.unusedSimpArgs false
/-- What is left of a purse: -1 where it does not do. -/
def sub (left : Int) (n : Nat) : Int := if left < n then -1 else left - n
def sizeCapS (l : List Cap) : Nat := l.length
theorem szCapS (A : Option Addr) (c : Nat) (l : List Cap) (left : Int) (w : World) (hr : kCap.C w A l.length l) (h0 : 0 ≤ left) (h1 : left ≤ 1048576) :
    Calls Try.prog 128 #[.slice A l.length c, .int .i64 left] w fun e w' => e = .returned (.int .i64 (sub left (sizeCapS l))) ∧ Drawn0 w w' := by
  have hL : l.length ≤ 9223372036854775807 := hr.2.1
  unfold sizeCapS sub
  clear hr
  by_cases h : left < (l.length : Int)
  · rw [if_pos h]
    have d1 : decide (left - (l.length : Int) < 0) = true := by simp; omega
    have d2 : decide (left < (l.length : Int)) = true := by simp; omega
    go_enter Try.func128, Try.ntmps128
    go_wp2
    go_ret
    exact ⟨rfl, Drawn0.refl _⟩
  · rw [if_neg h]
    have d1 : decide (left - (l.length : Int) < 0) = false := by simp; omega
    have d2 : decide (left < (l.length : Int)) = false := by simp; omega
    go_enter Try.func128, Try.ntmps128
    go_wp2
    go_ret
    exact ⟨rfl, Drawn0.refl _⟩
def sizeInsS (l : List Ins) : Nat := l.length
theorem szInsS (A : Option Addr) (c : Nat) (l : List Ins) (left : Int) (w : World) (hr : kIns.C w A l.length l) (h0 : 0 ≤ left) (h1 : left ≤ 1048576) :
    Calls Try.prog 129 #[.slice A l.length c, .int .i64 left] w fun e w' => e = .returned (.int .i64 (sub left (sizeInsS l))) ∧ Drawn0 w w' := by
  have hL : l.length ≤ 9223372036854775807 := hr.2.1
  unfold sizeInsS sub
  clear hr
  by_cases h : left < (l.length : Int)
  · rw [if_pos h]
    have d1 : decide (left - (l.length : Int) < 0) = true := by simp; omega
    have d2 : decide (left < (l.length : Int)) = true := by simp; omega
    go_enter Try.func129, Try.ntmps129
    go_wp2
    go_ret
    exact ⟨rfl, Drawn0.refl _⟩
  · rw [if_neg h]
    have d1 : decide (left - (l.length : Int) < 0) = false := by simp; omega
    have d2 : decide (left < (l.length : Int)) = false := by simp; omega
    go_enter Try.func129, Try.ntmps129
    go_wp2
    go_ret
    exact ⟨rfl, Drawn0.refl _⟩
def sizeHandlerS (l : List Handler) : Nat := l.length
theorem szHandlerS (A : Option Addr) (c : Nat) (l : List Handler) (left : Int) (w : World) (hr : kHandler.C w A l.length l) (h0 : 0 ≤ left) (h1 : left ≤ 1048576) :
    Calls Try.prog 130 #[.slice A l.length c, .int .i64 left] w fun e w' => e = .returned (.int .i64 (sub left (sizeHandlerS l))) ∧ Drawn0 w w' := by
  have hL : l.length ≤ 9223372036854775807 := hr.2.1
  unfold sizeHandlerS sub
  clear hr
  by_cases h : left < (l.length : Int)
  · rw [if_pos h]
    have d1 : decide (left - (l.length : Int) < 0) = true := by simp; omega
    have d2 : decide (left < (l.length : Int)) = true := by simp; omega
    go_enter Try.func130, Try.ntmps130
    go_wp2
    go_ret
    exact ⟨rfl, Drawn0.refl _⟩
  · rw [if_neg h]
    have d1 : decide (left - (l.length : Int) < 0) = false := by simp; omega
    have d2 : decide (left < (l.length : Int)) = false := by simp; omega
    go_enter Try.func130, Try.ntmps130
    go_wp2
    go_ret
    exact ⟨rfl, Drawn0.refl _⟩
def sizeConst (x : Const) : Nat := x.text.size
def GoodConst (x : Const) : Prop := x.text.size ≤ maxLen
set_option maxHeartbeats 4000000 in
set_option maxRecDepth 100000 in
theorem szConst (x : Const) (cs : List Value) (left : Int) (w : World) (hk : kConst.K w x cs) (hgood : GoodConst x) (h0 : 0 ≤ left) (h1 : left ≤ 1048576) :
    Calls Try.prog 92 #[.agg ⟨cs⟩, .int .i64 left] w fun e w' => e = .returned (.int .i64 (sub left (sizeConst x))) ∧ Below w.heap.size w w' := by
  have ecs := kConst_open hk; subst ecs
  clear hk
  have hu := Try.underlying131
  unfold GoodConst at hgood
  have HG := Aside0.mk hgood
  have A0 := Aside0.mk ((At.start w).alloc #[.int .i64 x.kind, .int .u64 x.num, .string x.text] 131)
  obtain ⟨n0, hn0⟩ : ∃ q, q = x.text.size := ⟨_, rfl⟩
  have HN := Aside0.mk hn0
  have hb0 : n0 ≤ 9223372036854775807 := by have := HG.out; unfold maxLen at this; omega
  clear hn0
  clear hgood
  have hsize : sizeConst x = n0 := by unfold sizeConst; have h := HN.out; omega
  rw [hsize]; have HSZ := Aside0.mk hsize; clear hsize
  by_cases c0 : left < (n0 : Int)
  · skip
    have hfin : sub left (n0) = -1 := by unfold sub; rw [if_pos (by omega)]
    rw [hfin]; clear hfin
    have s0 : sub (left) n0 = -1 := by unfold sub; rw [if_pos (by omega)]
    have d0 : decide (left - (n0 : Int) < 0) = true := by simp; omega
    have d0b : decide (left < (n0 : Int)) = true := by simp; omega
    have S0 := Aside0.mk s0; clear s0
    have e0 : (x.text.size : Int) = (n0 : Int) := by have := HN.out; omega
    go_enter Try.func92, Try.ntmps92
    go_wp2
    go_ret
    exact ⟨rfl, A0.out.below⟩
  · skip
    have hfin : sub left (n0) = left - n0 := by unfold sub; rw [if_neg (by omega)] <;> omega
    rw [hfin]; clear hfin
    have s0 : sub (left) n0 = left - (n0 : Int) := by unfold sub; rw [if_neg (by omega)]
    have d0 : decide (left - (n0 : Int) < 0) = false := by simp; omega
    have g0 : 0 ≤ left - (n0 : Int) := by omega
    have d0b : decide (left < (n0 : Int)) = false := by simp; omega
    have S0 := Aside0.mk s0; clear s0
    have e0 : (x.text.size : Int) = (n0 : Int) := by have := HN.out; omega
    go_enter Try.func92, Try.ntmps92
    go_wp2
    go_ret
    exact ⟨rfl, A0.out.below⟩
def sizeFunc (x : Func) : Nat := sizeCapS x.caps + sizeInsS x.code + sizeHandlerS x.handlers
def GoodFunc (x : Func) : Prop := True
set_option maxHeartbeats 4000000 in
set_option maxRecDepth 100000 in
theorem szFunc (x : Func) (cs : List Value) (left : Int) (w : World) (hk : kFuncL.K w x cs) (hgood : GoodFunc x) (h0 : 0 ≤ left) (h1 : left ≤ 1048576) :
    Calls Try.prog 91 #[.agg ⟨cs⟩, .int .i64 left] w fun e w' => e = .returned (.int .i64 (sub left (sizeFunc x))) ∧ Below w.heap.size w w' := by
  obtain ⟨pA2, pc2, pA3, pc3, pA4, pc4, rfl, pl2, pg2, pl3, pg3, pl4, pg4⟩ := kFuncL_open hk
  have pG2 := Aside0.mk pg2; clear pg2 pl2
  have pG3 := Aside0.mk pg3; clear pg3 pl3
  have pG4 := Aside0.mk pg4; clear pg4 pl4
  clear hk
  have hu := Try.underlying129
  unfold GoodFunc at hgood
  have HG := Aside0.mk hgood
  have A0 := Aside0.mk ((At.start w).alloc #[.int .i64 x.params, .int .i64 x.regs, .slice pA2 x.caps.length pc2, .slice pA3 x.code.length pc3, .slice pA4 x.handlers.length pc4] 129)
  obtain ⟨n0, hn0⟩ : ∃ q, q = sizeCapS x.caps := ⟨_, rfl⟩
  obtain ⟨n1, hn1⟩ : ∃ q, q = sizeInsS x.code := ⟨_, rfl⟩
  obtain ⟨n2, hn2⟩ : ∃ q, q = sizeHandlerS x.handlers := ⟨_, rfl⟩
  have HN := Aside0.mk (show n0 = sizeCapS x.caps ∧ n1 = sizeInsS x.code ∧ n2 = sizeHandlerS x.handlers from ⟨hn0, hn1, hn2⟩)
  clear hn0
  clear hn1
  clear hn2
  clear hgood
  have hsize : sizeFunc x = n0 + n1 + n2 := by unfold sizeFunc; have h := HN.out; omega
  rw [hsize]; have HSZ := Aside0.mk hsize; clear hsize
  by_cases c0 : left < (n0 : Int)
  · skip
    have hfin : sub left (n0 + n1 + n2) = -1 := by unfold sub; rw [if_pos (by omega)]
    rw [hfin]; clear hfin
    have s0 : sub (left) n0 = -1 := by unfold sub; rw [if_pos (by omega)]
    have S0 := Aside0.mk s0; clear s0
    go_enter Try.func91, Try.ntmps91
    go_wp2_with fail
    refine (szCapS _ _ _ (left) _ (A0.out.reads pG2.out) (by omega) (by omega)).mono ?_
    rintro e w1 ⟨rfl, hb0⟩
    rw [show sizeCapS x.caps = n0 from (by have := HN.out; omega), S0.out]
    have A1 := Aside0.mk (A0.out.step (hb0.below)); clear A0 hb0; have z0 := A1.out.cell0
    go_wp2
    go_ret
    exact ⟨rfl, A1.out.below⟩
  · skip
    by_cases c1 : left - (n0 : Int) < (n1 : Int)
    · skip
      have hfin : sub left (n0 + n1 + n2) = -1 := by unfold sub; rw [if_pos (by omega)]
      rw [hfin]; clear hfin
      have s0 : sub (left) n0 = left - (n0 : Int) := by unfold sub; rw [if_neg (by omega)]
      have d0 : decide (left - (n0 : Int) < 0) = false := by simp; omega
      have g0 : 0 ≤ left - (n0 : Int) := by omega
      have S0 := Aside0.mk s0; clear s0
      have s1 : sub (left - (n0 : Int)) n1 = -1 := by unfold sub; rw [if_pos (by omega)]
      have S1 := Aside0.mk s1; clear s1
      go_enter Try.func91, Try.ntmps91
      go_wp2_with fail
      refine (szCapS _ _ _ (left) _ (A0.out.reads pG2.out) (by omega) (by omega)).mono ?_
      rintro e w1 ⟨rfl, hb0⟩
      rw [show sizeCapS x.caps = n0 from (by have := HN.out; omega), S0.out]
      have A1 := Aside0.mk (A0.out.step (hb0.below)); clear A0 hb0; have z0 := A1.out.cell0
      go_wp2_with fail
      refine (szInsS _ _ _ (left - (n0 : Int)) _ (A1.out.reads pG3.out) (by omega) (by omega)).mono ?_
      rintro e w2 ⟨rfl, hb0⟩
      rw [show sizeInsS x.code = n1 from (by have := HN.out; omega), S1.out]
      have A2 := Aside0.mk (A1.out.step (hb0.below)); clear A1 hb0 z0; have z0 := A2.out.cell0
      go_wp2
      go_ret
      exact ⟨rfl, A2.out.below⟩
    · skip
      by_cases c2 : left - (n0 : Int) - (n1 : Int) < (n2 : Int)
      · skip
        have hfin : sub left (n0 + n1 + n2) = -1 := by unfold sub; rw [if_pos (by omega)]
        rw [hfin]; clear hfin
        have s0 : sub (left) n0 = left - (n0 : Int) := by unfold sub; rw [if_neg (by omega)]
        have d0 : decide (left - (n0 : Int) < 0) = false := by simp; omega
        have g0 : 0 ≤ left - (n0 : Int) := by omega
        have S0 := Aside0.mk s0; clear s0
        have s1 : sub (left - (n0 : Int)) n1 = left - (n0 : Int) - (n1 : Int) := by unfold sub; rw [if_neg (by omega)]
        have d1 : decide (left - (n0 : Int) - (n1 : Int) < 0) = false := by simp; omega
        have g1 : 0 ≤ left - (n0 : Int) - (n1 : Int) := by omega
        have S1 := Aside0.mk s1; clear s1
        have s2 : sub (left - (n0 : Int) - (n1 : Int)) n2 = -1 := by unfold sub; rw [if_pos (by omega)]
        have S2 := Aside0.mk s2; clear s2
        go_enter Try.func91, Try.ntmps91
        go_wp2_with fail
        refine (szCapS _ _ _ (left) _ (A0.out.reads pG2.out) (by omega) (by omega)).mono ?_
        rintro e w1 ⟨rfl, hb0⟩
        rw [show sizeCapS x.caps = n0 from (by have := HN.out; omega), S0.out]
        have A1 := Aside0.mk (A0.out.step (hb0.below)); clear A0 hb0; have z0 := A1.out.cell0
        go_wp2_with fail
        refine (szInsS _ _ _ (left - (n0 : Int)) _ (A1.out.reads pG3.out) (by omega) (by omega)).mono ?_
        rintro e w2 ⟨rfl, hb0⟩
        rw [show sizeInsS x.code = n1 from (by have := HN.out; omega), S1.out]
        have A2 := Aside0.mk (A1.out.step (hb0.below)); clear A1 hb0 z0; have z0 := A2.out.cell0
        go_wp2_with fail
        refine (szHandlerS _ _ _ (left - (n0 : Int) - (n1 : Int)) _ (A2.out.reads pG4.out) (by omega) (by omega)).mono ?_
        rintro e w3 ⟨rfl, hb0⟩
        rw [show sizeHandlerS x.handlers = n2 from (by have := HN.out; omega), S2.out]
        have A3 := Aside0.mk (A2.out.step (hb0.below)); clear A2 hb0 z0; have z0 := A3.out.cell0
        go_wp2
        go_ret
        exact ⟨rfl, A3.out.below⟩
      · skip
        have hfin : sub left (n0 + n1 + n2) = left - n0 - n1 - n2 := by unfold sub; rw [if_neg (by omega)] <;> omega
        rw [hfin]; clear hfin
        have s0 : sub (left) n0 = left - (n0 : Int) := by unfold sub; rw [if_neg (by omega)]
        have d0 : decide (left - (n0 : Int) < 0) = false := by simp; omega
        have g0 : 0 ≤ left - (n0 : Int) := by omega
        have S0 := Aside0.mk s0; clear s0
        have s1 : sub (left - (n0 : Int)) n1 = left - (n0 : Int) - (n1 : Int) := by unfold sub; rw [if_neg (by omega)]
        have d1 : decide (left - (n0 : Int) - (n1 : Int) < 0) = false := by simp; omega
        have g1 : 0 ≤ left - (n0 : Int) - (n1 : Int) := by omega
        have S1 := Aside0.mk s1; clear s1
        have s2 : sub (left - (n0 : Int) - (n1 : Int)) n2 = left - (n0 : Int) - (n1 : Int) - (n2 : Int) := by unfold sub; rw [if_neg (by omega)]
        have d2 : decide (left - (n0 : Int) - (n1 : Int) - (n2 : Int) < 0) = false := by simp; omega
        have g2 : 0 ≤ left - (n0 : Int) - (n1 : Int) - (n2 : Int) := by omega
        have S2 := Aside0.mk s2; clear s2
        go_enter Try.func91, Try.ntmps91
        go_wp2_with fail
        refine (szCapS _ _ _ (left) _ (A0.out.reads pG2.out) (by omega) (by omega)).mono ?_
        rintro e w1 ⟨rfl, hb0⟩
        rw [show sizeCapS x.caps = n0 from (by have := HN.out; omega), S0.out]
        have A1 := Aside0.mk (A0.out.step (hb0.below)); clear A0 hb0; have z0 := A1.out.cell0
        go_wp2_with fail
        refine (szInsS _ _ _ (left - (n0 : Int)) _ (A1.out.reads pG3.out) (by omega) (by omega)).mono ?_
        rintro e w2 ⟨rfl, hb0⟩
        rw [show sizeInsS x.code = n1 from (by have := HN.out; omega), S1.out]
        have A2 := Aside0.mk (A1.out.step (hb0.below)); clear A1 hb0 z0; have z0 := A2.out.cell0
        go_wp2_with fail
        refine (szHandlerS _ _ _ (left - (n0 : Int) - (n1 : Int)) _ (A2.out.reads pG4.out) (by omega) (by omega)).mono ?_
        rintro e w3 ⟨rfl, hb0⟩
        rw [show sizeHandlerS x.handlers = n2 from (by have := HN.out; omega), S2.out]
        have A3 := Aside0.mk (A2.out.step (hb0.below)); clear A2 hb0 z0; have z0 := A3.out.cell0
        go_wp2
        go_ret
        exact ⟨rfl, A3.out.below⟩
def sizeConstS (l : List Const) : Nat := l.length + (l.map sizeConst).sum
theorem sizeConstS_take (l : List Const) (j : Nat) (h : j < l.length) : ((l.take (j + 1)).map sizeConst).sum = ((l.take j).map sizeConst).sum + sizeConst (el zConst l j) := by
  rw [List.take_succ_eq_append_getElem h, List.map_append, List.sum_append, el_lt zConst h]
  simp
theorem sizeConstS_le (l : List Const) (j : Nat) : ((l.take j).map sizeConst).sum ≤ (l.map sizeConst).sum := by
  have h : ((l.take j ++ l.drop j).map sizeConst).sum = (l.map sizeConst).sum := by rw [List.take_append_drop]
  rw [List.map_append, List.sum_append] at h
  omega
set_option maxHeartbeats 4000000 in
set_option maxRecDepth 100000 in
theorem szConstS (A : Option Addr) (c : Nat) (l : List Const) (left : Int) (w : World) (hr : kConst.C w A l.length l) (hgood : ∀ y ∈ l, GoodConst y) (h0 : 0 ≤ left) (h1 : left ≤ 1048576) :
    Calls Try.prog 50 #[.slice A l.length c, .int .i64 left] w fun e w' => e = .returned (.int .i64 (sub left (sizeConstS l))) ∧ Below w.heap.size w w' := by
  have hL : l.length ≤ 9223372036854775807 := hr.2.1
  have HR := Aside0.mk hr; have HG := Aside0.mk hgood; clear hr hgood
  by_cases h : left < (l.length : Int)
  · have hfin : sub left (sizeConstS l) = -1 := by unfold sub sizeConstS; rw [if_pos (by omega)]
    rw [hfin]; clear hfin
    have d1 : decide (left - (l.length : Int) < 0) = true := by simp; omega
    have d2 : decide (left < (l.length : Int)) = true := by simp; omega
    go_enter Try.func50, Try.ntmps50
    go_wp2
    go_ret
    exact ⟨rfl, Below.refl _ _⟩
  · have d1 : decide (left - (l.length : Int) < 0) = false := by simp; omega
    have d2 : decide (left < (l.length : Int)) = false := by simp; omega
    go_enter Try.func50, Try.ntmps50
    go_wp2
    go_loopw [1, 5] (fun u v wr => ∃ (j : Nat) (r : Int), v = .int .i64 j ∧ u = .int .i64 r ∧ j ≤ l.length ∧ 0 ≤ r ∧ r ≤ 1048576 ∧ Aside0 (r = left - (l.length : Int) - (((l.take j).map sizeConst).sum : Nat)) ∧ Aside0 (Below w.heap.size w wr)) (fun _ v _ => l.length - (intOf v).toNat)
    case atStart => exact ⟨0, left - (l.length : Int), rfl, rfl, by omega, by omega, by omega, ⟨by simp⟩, ⟨Below.refl _ _⟩⟩
    case round =>
      obtain ⟨j, r, rfl, rfl, hj, hr0, hr1, HE, HW⟩ := hrel
      by_cases hlt : j < l.length
      · obtain ⟨pa, rfl, pK, px0, px1, px2⟩ := Const_at (Kd.C_below HR.out HW.out) j hlt
        have pK2 := Aside0.mk pK; clear pK
        have HGj := Aside0.mk (HG.out _ (el_mem zConst hlt))
        have i1 : (0 : Int) ≤ (j : Int) := by omega
        have i2 : (j : Int) < (l.length : Int) := by omega
        have HT := Aside0.mk (sizeConstS_take l j hlt); have HM := Aside0.mk (sizeConstS_le l (j + 1))
        obtain ⟨m, hm⟩ : ∃ m, m = sizeConst (el zConst l j) := ⟨_, rfl⟩
        have HMM := Aside0.mk hm; clear hm
        by_cases c0 : r < (m : Int)
        · have s0 : sub r m = -1 := by unfold sub; rw [if_pos c0]
          have hfin : sub left (sizeConstS l) = -1 := by unfold sub sizeConstS; rw [if_pos (by have := HE.out; have := HT.out; have := HM.out; have := HMM.out; omega)]
          have HF := Aside0.mk hfin; clear hfin
          have S0 := Aside0.mk s0; clear s0
          go_wp2_with fail
          refine (szConst (el zConst l j) _ r _ pK2.out HGj.out hr0 hr1).mono ?_
          rintro e w1 ⟨rfl, hb⟩
          rw [← HMM.out, S0.out]
          go_wp2
          go_ret
          exact ⟨by rw [HF.out]; rfl, below_step HW.out hb⟩
        · have s0 : sub r m = r - m := by unfold sub; rw [if_neg c0]
          have d3 : decide (r - (m : Int) < 0) = false := by simp; omega
          have g3 : 0 ≤ r - (m : Int) := by omega
          have S0 := Aside0.mk s0; clear s0
          go_wp2_with fail
          refine (szConst (el zConst l j) _ r _ pK2.out HGj.out hr0 hr1).mono ?_
          rintro e w1 ⟨rfl, hb⟩
          rw [← HMM.out, S0.out]
          go_wp2
          go_roundw
          case rel => exact ⟨j + 1, r - (m : Int), by go_num, rfl, by omega, by omega, by omega, ⟨by have := HE.out; have := HT.out; have := HMM.out; omega⟩, ⟨below_step HW.out hb⟩⟩
          case measure => simp [intOf]; omega
      · have hjl : j = l.length := by omega
        have hfin : sub left (sizeConstS l) = r := by have h := HE.out; rw [hjl, List.take_length] at h; unfold sub sizeConstS; rw [if_neg (by omega)]; omega
        have HF := Aside0.mk hfin; clear hfin hjl
        go_wp2
        go_ret
        exact ⟨by rw [HF.out]; rfl, HW.out⟩
def sizeFuncS (l : List Func) : Nat := l.length + (l.map sizeFunc).sum
theorem sizeFuncS_take (l : List Func) (j : Nat) (h : j < l.length) : ((l.take (j + 1)).map sizeFunc).sum = ((l.take j).map sizeFunc).sum + sizeFunc (el zFunc l j) := by
  rw [List.take_succ_eq_append_getElem h, List.map_append, List.sum_append, el_lt zFunc h]
  simp
theorem sizeFuncS_le (l : List Func) (j : Nat) : ((l.take j).map sizeFunc).sum ≤ (l.map sizeFunc).sum := by
  have h : ((l.take j ++ l.drop j).map sizeFunc).sum = (l.map sizeFunc).sum := by rw [List.take_append_drop]
  rw [List.map_append, List.sum_append] at h
  omega
set_option maxHeartbeats 4000000 in
set_option maxRecDepth 100000 in
theorem szFuncS (A : Option Addr) (c : Nat) (l : List Func) (left : Int) (w : World) (hr : kFuncL.C w A l.length l) (hgood : ∀ y ∈ l, GoodFunc y) (h0 : 0 ≤ left) (h1 : left ≤ 1048576) :
    Calls Try.prog 49 #[.slice A l.length c, .int .i64 left] w fun e w' => e = .returned (.int .i64 (sub left (sizeFuncS l))) ∧ Below w.heap.size w w' := by
  have hL : l.length ≤ 9223372036854775807 := hr.2.1
  have HR := Aside0.mk hr; have HG := Aside0.mk hgood; clear hr hgood
  by_cases h : left < (l.length : Int)
  · have hfin : sub left (sizeFuncS l) = -1 := by unfold sub sizeFuncS; rw [if_pos (by omega)]
    rw [hfin]; clear hfin
    have d1 : decide (left - (l.length : Int) < 0) = true := by simp; omega
    have d2 : decide (left < (l.length : Int)) = true := by simp; omega
    go_enter Try.func49, Try.ntmps49
    go_wp2
    go_ret
    exact ⟨rfl, Below.refl _ _⟩
  · have d1 : decide (left - (l.length : Int) < 0) = false := by simp; omega
    have d2 : decide (left < (l.length : Int)) = false := by simp; omega
    go_enter Try.func49, Try.ntmps49
    go_wp2
    go_loopw [1, 5] (fun u v wr => ∃ (j : Nat) (r : Int), v = .int .i64 j ∧ u = .int .i64 r ∧ j ≤ l.length ∧ 0 ≤ r ∧ r ≤ 1048576 ∧ Aside0 (r = left - (l.length : Int) - (((l.take j).map sizeFunc).sum : Nat)) ∧ Aside0 (Below w.heap.size w wr)) (fun _ v _ => l.length - (intOf v).toNat)
    case atStart => exact ⟨0, left - (l.length : Int), rfl, rfl, by omega, by omega, by omega, ⟨by simp⟩, ⟨Below.refl _ _⟩⟩
    case round =>
      obtain ⟨j, r, rfl, rfl, hj, hr0, hr1, HE, HW⟩ := hrel
      by_cases hlt : j < l.length
      · obtain ⟨pa, pA2, pc2, pA3, pc3, pA4, pc4, rfl, pK, px0, px1, px2, px3, px4⟩ := FuncL_at (Kd.C_below HR.out HW.out) j hlt
        have pK2 := Aside0.mk pK; clear pK
        have HGj := Aside0.mk (HG.out _ (el_mem zFunc hlt))
        have i1 : (0 : Int) ≤ (j : Int) := by omega
        have i2 : (j : Int) < (l.length : Int) := by omega
        have HT := Aside0.mk (sizeFuncS_take l j hlt); have HM := Aside0.mk (sizeFuncS_le l (j + 1))
        obtain ⟨m, hm⟩ : ∃ m, m = sizeFunc (el zFunc l j) := ⟨_, rfl⟩
        have HMM := Aside0.mk hm; clear hm
        by_cases c0 : r < (m : Int)
        · have s0 : sub r m = -1 := by unfold sub; rw [if_pos c0]
          have hfin : sub left (sizeFuncS l) = -1 := by unfold sub sizeFuncS; rw [if_pos (by have := HE.out; have := HT.out; have := HM.out; have := HMM.out; omega)]
          have HF := Aside0.mk hfin; clear hfin
          have S0 := Aside0.mk s0; clear s0
          go_wp2_with fail
          refine (szFunc (el zFunc l j) _ r _ pK2.out HGj.out hr0 hr1).mono ?_
          rintro e w1 ⟨rfl, hb⟩
          rw [← HMM.out, S0.out]
          go_wp2
          go_ret
          exact ⟨by rw [HF.out]; rfl, below_step HW.out hb⟩
        · have s0 : sub r m = r - m := by unfold sub; rw [if_neg c0]
          have d3 : decide (r - (m : Int) < 0) = false := by simp; omega
          have g3 : 0 ≤ r - (m : Int) := by omega
          have S0 := Aside0.mk s0; clear s0
          go_wp2_with fail
          refine (szFunc (el zFunc l j) _ r _ pK2.out HGj.out hr0 hr1).mono ?_
          rintro e w1 ⟨rfl, hb⟩
          rw [← HMM.out, S0.out]
          go_wp2
          go_roundw
          case rel => exact ⟨j + 1, r - (m : Int), by go_num, rfl, by omega, by omega, by omega, ⟨by have := HE.out; have := HT.out; have := HMM.out; omega⟩, ⟨below_step HW.out hb⟩⟩
          case measure => simp [intOf]; omega
      · have hjl : j = l.length := by omega
        have hfin : sub left (sizeFuncS l) = r := by have h := HE.out; rw [hjl, List.take_length] at h; unfold sub sizeFuncS; rw [if_neg (by omega)]; omega
        have HF := Aside0.mk hfin; clear hfin hjl
        go_wp2
        go_ret
        exact ⟨by rw [HF.out]; rfl, HW.out⟩
def sizeImage (x : Image) : Nat := sizeFuncS x.funcs + sizeConstS x.consts
def GoodImage (x : Image) : Prop := (∀ y ∈ x.funcs, GoodFunc y) ∧ (∀ y ∈ x.consts, GoodConst y)
set_option maxHeartbeats 4000000 in
set_option maxRecDepth 100000 in
theorem szImage (x : Image) (cs : List Value) (left : Int) (w : World) (hk : kImageL.K w x cs) (hgood : GoodImage x) (h0 : 0 ≤ left) (h1 : left ≤ 1048576) :
    Calls Try.prog 12 #[.agg ⟨cs⟩, .int .i64 left] w fun e w' => e = .returned (.int .i64 (sub left (sizeImage x))) ∧ Below w.heap.size w w' := by
  obtain ⟨pA0, pc0, pA1, pc1, rfl, pl0, pg0, pl1, pg1⟩ := kImageL_open hk
  have pG0 := Aside0.mk pg0; clear pg0 pl0
  have pG1 := Aside0.mk pg1; clear pg1 pl1
  clear hk
  have hu := Try.underlying25
  unfold GoodImage at hgood
  have HG := Aside0.mk hgood
  have A0 := Aside0.mk ((At.start w).alloc #[.slice pA0 x.funcs.length pc0, .slice pA1 x.consts.length pc1] 25)
  obtain ⟨n0, hn0⟩ : ∃ q, q = sizeFuncS x.funcs := ⟨_, rfl⟩
  obtain ⟨n1, hn1⟩ : ∃ q, q = sizeConstS x.consts := ⟨_, rfl⟩
  have HN := Aside0.mk (show n0 = sizeFuncS x.funcs ∧ n1 = sizeConstS x.consts from ⟨hn0, hn1⟩)
  clear hn0
  clear hn1
  clear hgood
  have hsize : sizeImage x = n0 + n1 := by unfold sizeImage; have h := HN.out; omega
  rw [hsize]; have HSZ := Aside0.mk hsize; clear hsize
  by_cases c0 : left < (n0 : Int)
  · skip
    have hfin : sub left (n0 + n1) = -1 := by unfold sub; rw [if_pos (by omega)]
    rw [hfin]; clear hfin
    have s0 : sub (left) n0 = -1 := by unfold sub; rw [if_pos (by omega)]
    have S0 := Aside0.mk s0; clear s0
    go_enter Try.func12, Try.ntmps12
    go_wp2_with fail
    refine (szFuncS _ _ _ (left) _ (A0.out.reads pG0.out) (HG.out.1) (by omega) (by omega)).mono ?_
    rintro e w1 ⟨rfl, hb0⟩
    rw [show sizeFuncS x.funcs = n0 from (by have := HN.out; omega), S0.out]
    have A1 := Aside0.mk (A0.out.step (hb0)); clear A0 hb0; have z0 := A1.out.cell0
    go_wp2
    go_ret
    exact ⟨rfl, A1.out.below⟩
  · skip
    by_cases c1 : left - (n0 : Int) < (n1 : Int)
    · skip
      have hfin : sub left (n0 + n1) = -1 := by unfold sub; rw [if_pos (by omega)]
      rw [hfin]; clear hfin
      have s0 : sub (left) n0 = left - (n0 : Int) := by unfold sub; rw [if_neg (by omega)]
      have d0 : decide (left - (n0 : Int) < 0) = false := by simp; omega
      have g0 : 0 ≤ left - (n0 : Int) := by omega
      have S0 := Aside0.mk s0; clear s0
      have s1 : sub (left - (n0 : Int)) n1 = -1 := by unfold sub; rw [if_pos (by omega)]
      have S1 := Aside0.mk s1; clear s1
      go_enter Try.func12, Try.ntmps12
      go_wp2_with fail
      refine (szFuncS _ _ _ (left) _ (A0.out.reads pG0.out) (HG.out.1) (by omega) (by omega)).mono ?_
      rintro e w1 ⟨rfl, hb0⟩
      rw [show sizeFuncS x.funcs = n0 from (by have := HN.out; omega), S0.out]
      have A1 := Aside0.mk (A0.out.step (hb0)); clear A0 hb0; have z0 := A1.out.cell0
      go_wp2_with fail
      refine (szConstS _ _ _ (left - (n0 : Int)) _ (A1.out.reads pG1.out) (HG.out.2) (by omega) (by omega)).mono ?_
      rintro e w2 ⟨rfl, hb0⟩
      rw [show sizeConstS x.consts = n1 from (by have := HN.out; omega), S1.out]
      have A2 := Aside0.mk (A1.out.step (hb0)); clear A1 hb0 z0; have z0 := A2.out.cell0
      go_wp2
      go_ret
      exact ⟨rfl, A2.out.below⟩
    · skip
      have hfin : sub left (n0 + n1) = left - n0 - n1 := by unfold sub; rw [if_neg (by omega)] <;> omega
      rw [hfin]; clear hfin
      have s0 : sub (left) n0 = left - (n0 : Int) := by unfold sub; rw [if_neg (by omega)]
      have d0 : decide (left - (n0 : Int) < 0) = false := by simp; omega
      have g0 : 0 ≤ left - (n0 : Int) := by omega
      have S0 := Aside0.mk s0; clear s0
      have s1 : sub (left - (n0 : Int)) n1 = left - (n0 : Int) - (n1 : Int) := by unfold sub; rw [if_neg (by omega)]
      have d1 : decide (left - (n0 : Int) - (n1 : Int) < 0) = false := by simp; omega
      have g1 : 0 ≤ left - (n0 : Int) - (n1 : Int) := by omega
      have S1 := Aside0.mk s1; clear s1
      go_enter Try.func12, Try.ntmps12
      go_wp2_with fail
      refine (szFuncS _ _ _ (left) _ (A0.out.reads pG0.out) (HG.out.1) (by omega) (by omega)).mono ?_
      rintro e w1 ⟨rfl, hb0⟩
      rw [show sizeFuncS x.funcs = n0 from (by have := HN.out; omega), S0.out]
      have A1 := Aside0.mk (A0.out.step (hb0)); clear A0 hb0; have z0 := A1.out.cell0
      go_wp2_with fail
      refine (szConstS _ _ _ (left - (n0 : Int)) _ (A1.out.reads pG1.out) (HG.out.2) (by omega) (by omega)).mono ?_
      rintro e w2 ⟨rfl, hb0⟩
      rw [show sizeConstS x.consts = n1 from (by have := HN.out; omega), S1.out]
      have A2 := Aside0.mk (A1.out.step (hb0)); clear A1 hb0 z0; have z0 := A2.out.cell0
      go_wp2
      go_ret
      exact ⟨rfl, A2.out.below⟩
end Go.Proofs.Ytcbaokflimdjnaa
end
section
namespace Go.Proofs.Ytcbaokflimdjnaa
open Go.RowKit Go.Proofs.YtcbaokflimdjnaaW.PrintWords Go.Proofs.YtcbaokflimdjnaaW.PrintMore Go.Proofs.Ytcbaokflimdjnaa.Law Go.Proofs.Ytcbaokflimdjnaa.Num
set_option linter.unusedVariables false
set_option linter.unusedSimpArgs false
set_option maxHeartbeats 4000000 in
set_option maxRecDepth 100000 in
theorem eqIns (x y : Ins) (cs ds : List Value) (w : World) (hk : kIns.K w x cs) (hk2 : kIns.K w y ds) :
    Calls Try.prog 166 #[.agg ⟨cs⟩, .agg ⟨ds⟩] w fun e w' => e = .returned (.bool (decide (x = y))) ∧ Below w.heap.size w w' := by
  have ecs := kIns_open hk
  subst ecs
  have eds := kIns_open hk2
  subst eds
  clear hk hk2
  have hu := Try.underlying76
  by_cases h0 : x.op = y.op
  · skip
    have b0 : (x.op == y.op) = true := beq_iff_eq.mpr h0
    have d0 : (x.op != y.op) = false := bne_eq_false_iff_eq.mpr h0
    by_cases h1 : x.a = y.a
    · skip
      have b1 : (x.a == y.a) = true := beq_iff_eq.mpr h1
      have d1 : (x.a != y.a) = false := bne_eq_false_iff_eq.mpr h1
      by_cases h2 : x.b = y.b
      · skip
        have b2 : (x.b == y.b) = true := beq_iff_eq.mpr h2
        have d2 : (x.b != y.b) = false := bne_eq_false_iff_eq.mpr h2
        have hfin : decide (x = y) = true := decide_eq_true (by cases x; cases y; simp_all)
        have HF := Aside0.mk hfin
        clear hfin
        clear h0
        clear h1
        clear h2
        go_enter Try.func166, Try.ntmps166
        go_wp2
        go_ret
        exact ⟨by rw [HF.out]; rfl, by repeat (first | exact Below.refl _ _ | apply below_alloc | apply below_drew1 | apply pw_below_drewN | assumption)⟩
      · skip
        have b2 : (x.b == y.b) = false := beq_eq_false_iff_ne.mpr h2
        have d2 : (x.b != y.b) = true := bne_iff_ne.mpr h2
        have hfin : decide (x = y) = false := decide_eq_false (fun e => h2 (by rw [e]))
        have HF := Aside0.mk hfin
        clear hfin
        clear h0
        clear h1
        clear h2
        go_enter Try.func166, Try.ntmps166
        go_wp2
        go_ret
        exact ⟨by rw [HF.out]; rfl, by repeat (first | exact Below.refl _ _ | apply below_alloc | apply below_drew1 | apply pw_below_drewN | assumption)⟩
    · skip
      have b1 : (x.a == y.a) = false := beq_eq_false_iff_ne.mpr h1
      have d1 : (x.a != y.a) = true := bne_iff_ne.mpr h1
      have hfin : decide (x = y) = false := decide_eq_false (fun e => h1 (by rw [e]))
      have HF := Aside0.mk hfin
      clear hfin
      clear h0
      clear h1
      go_enter Try.func166, Try.ntmps166
      go_wp2
      go_ret
      exact ⟨by rw [HF.out]; rfl, by repeat (first | exact Below.refl _ _ | apply below_alloc | apply below_drew1 | apply pw_below_drewN | assumption)⟩
  · skip
    have b0 : (x.op == y.op) = false := beq_eq_false_iff_ne.mpr h0
    have d0 : (x.op != y.op) = true := bne_iff_ne.mpr h0
    have hfin : decide (x = y) = false := decide_eq_false (fun e => h0 (by rw [e]))
    have HF := Aside0.mk hfin
    clear hfin
    clear h0
    go_enter Try.func166, Try.ntmps166
    go_wp2
    go_ret
    exact ⟨by rw [HF.out]; rfl, by repeat (first | exact Below.refl _ _ | apply below_alloc | apply below_drew1 | apply pw_below_drewN | assumption)⟩
set_option maxHeartbeats 4000000 in
set_option maxRecDepth 100000 in
theorem eqInsS (A B : Option Addr) (c d : Nat) (l m : List Ins) (w : World) (hr : kIns.C w A l.length l) (hr2 : kIns.C w B m.length m) :
    Calls Try.prog 140 #[.slice A l.length c, .slice B m.length d] w fun e w' => e = .returned (.bool (decide (l = m))) ∧ Below w.heap.size w w' := by
  have hL : l.length ≤ 9223372036854775807 := hr.2.1
  by_cases hlen : l.length = m.length
  · have b1 : ((l.length : Int) != (m.length : Int)) = false := by simp [hlen]
    have HR := Aside0.mk hr; have HR2 := Aside0.mk hr2; have HL := Aside0.mk hlen
    clear hr hr2 hlen
    go_enter Try.func140, Try.ntmps140
    go_wp2
    go_loopw [5] (fun v wr => ∃ j : Nat, v = .int .i64 j ∧ j ≤ l.length ∧ Aside0 (∀ i : Nat, i < j → el zIns l i = el zIns m i) ∧ Aside0 (Below w.heap.size w wr)) (fun v _ => l.length - (intOf v).toNat)
    case atStart => exact ⟨0, rfl, by omega, ⟨fun i hi => by omega⟩, ⟨Below.refl _ _⟩⟩
    case round =>
      obtain ⟨j, rfl, hj, HE, HW⟩ := hrel
      by_cases hlt : j < l.length
      · obtain ⟨pa, rfl, pK, px0, px1, px2⟩ := Ins_at (Kd.C_below HR.out HW.out) j hlt
        have pK2 := Aside0.mk pK; clear pK
        obtain ⟨qa, rfl, qK, qx0, qx1, qx2⟩ := Ins_at (Kd.C_below HR2.out HW.out) j (by have := HL.out; omega)
        have qK2 := Aside0.mk qK; clear qK
        have i1 : (0 : Int) ≤ (j : Int) := by omega
        have i2 : (j : Int) < (l.length : Int) := by omega
        have i3 : (j : Int) < (m.length : Int) := by have := HL.out; omega
        by_cases he : el zIns l j = el zIns m j
        · have b2 : decide (el zIns l j = el zIns m j) = true := decide_eq_true he
          have HE2 := Aside0.mk he
          clear he
          go_wp2
          have HS : Aside0 (∀ W : World, Below wr.heap.size wr W → W.cell? (pa.add (j * 3)) = some (.int .i64 (el zIns l j).op) ∧ W.cell? ⟨(pa.add (j * 3)).block, (pa.add (j * 3)).off + 1, none⟩ = some (.int .i64 (el zIns l j).a) ∧ W.cell? ⟨(pa.add (j * 3)).block, (pa.add (j * 3)).off + 2, none⟩ = some (.int .i64 (el zIns l j).b) ∧ W.cell? (qa.add (j * 3)) = some (.int .i64 (el zIns m j).op) ∧ W.cell? ⟨(qa.add (j * 3)).block, (qa.add (j * 3)).off + 1, none⟩ = some (.int .i64 (el zIns m j).a) ∧ W.cell? ⟨(qa.add (j * 3)).block, (qa.add (j * 3)).off + 2, none⟩ = some (.int .i64 (el zIns m j).b)) := ⟨fun W hB => ⟨pw_cell_below hB px0, pw_cell_below hB px1, pw_cell_below hB px2, pw_cell_below hB qx0, pw_cell_below hB qx1, pw_cell_below hB qx2⟩⟩
          go_region_held3 (fun W => W.cell? (pa.add (j * 3)) = some (.int .i64 (el zIns l j).op) ∧ W.cell? ⟨(pa.add (j * 3)).block, (pa.add (j * 3)).off + 1, none⟩ = some (.int .i64 (el zIns l j).a) ∧ W.cell? ⟨(pa.add (j * 3)).block, (pa.add (j * 3)).off + 2, none⟩ = some (.int .i64 (el zIns l j).b) ∧ W.cell? (qa.add (j * 3)) = some (.int .i64 (el zIns m j).op) ∧ W.cell? ⟨(qa.add (j * 3)).block, (qa.add (j * 3)).off + 1, none⟩ = some (.int .i64 (el zIns m j).a) ∧ W.cell? ⟨(qa.add (j * 3)).block, (qa.add (j * 3)).off + 2, none⟩ = some (.int .i64 (el zIns m j).b)) (first | exact HS.out _ (below_step (below_drew1 (Below.refl _ _)) hb) | exact HS.out _ (below_drew1 (Below.refl _ _))) (first | (go_at_call 166; refine (eqIns (el zIns l j) (el zIns m j) _ _ _ ?s1 ?s2).mono ?_; (case s1 => exact Kd.K_drew0 pK2.out); (case s2 => exact Kd.K_drew0 qK2.out); rintro e w1 ⟨rfl, hb⟩))
          go_wp2
          go_roundw
          case rel => exact ⟨j + 1, by go_num, by omega, ⟨fun i hi => by rcases Nat.lt_succ_iff_lt_or_eq.1 hi with h | h; exact HE.out i h; rw [h]; exact HE2.out⟩, ⟨below_step (below_drew1 HW.out) hb⟩⟩
          case measure => simp [intOf]; omega
        · have b2 : decide (el zIns l j = el zIns m j) = false := decide_eq_false he
          have HE2 := Aside0.mk he
          clear he
          go_wp2
          have HS : Aside0 (∀ W : World, Below wr.heap.size wr W → W.cell? (pa.add (j * 3)) = some (.int .i64 (el zIns l j).op) ∧ W.cell? ⟨(pa.add (j * 3)).block, (pa.add (j * 3)).off + 1, none⟩ = some (.int .i64 (el zIns l j).a) ∧ W.cell? ⟨(pa.add (j * 3)).block, (pa.add (j * 3)).off + 2, none⟩ = some (.int .i64 (el zIns l j).b) ∧ W.cell? (qa.add (j * 3)) = some (.int .i64 (el zIns m j).op) ∧ W.cell? ⟨(qa.add (j * 3)).block, (qa.add (j * 3)).off + 1, none⟩ = some (.int .i64 (el zIns m j).a) ∧ W.cell? ⟨(qa.add (j * 3)).block, (qa.add (j * 3)).off + 2, none⟩ = some (.int .i64 (el zIns m j).b)) := ⟨fun W hB => ⟨pw_cell_below hB px0, pw_cell_below hB px1, pw_cell_below hB px2, pw_cell_below hB qx0, pw_cell_below hB qx1, pw_cell_below hB qx2⟩⟩
          go_region_held3 (fun W => W.cell? (pa.add (j * 3)) = some (.int .i64 (el zIns l j).op) ∧ W.cell? ⟨(pa.add (j * 3)).block, (pa.add (j * 3)).off + 1, none⟩ = some (.int .i64 (el zIns l j).a) ∧ W.cell? ⟨(pa.add (j * 3)).block, (pa.add (j * 3)).off + 2, none⟩ = some (.int .i64 (el zIns l j).b) ∧ W.cell? (qa.add (j * 3)) = some (.int .i64 (el zIns m j).op) ∧ W.cell? ⟨(qa.add (j * 3)).block, (qa.add (j * 3)).off + 1, none⟩ = some (.int .i64 (el zIns m j).a) ∧ W.cell? ⟨(qa.add (j * 3)).block, (qa.add (j * 3)).off + 2, none⟩ = some (.int .i64 (el zIns m j).b)) (first | exact HS.out _ (below_step (below_drew1 (Below.refl _ _)) hb) | exact HS.out _ (below_drew1 (Below.refl _ _))) (first | (go_at_call 166; refine (eqIns (el zIns l j) (el zIns m j) _ _ _ ?s1 ?s2).mono ?_; (case s1 => exact Kd.K_drew0 pK2.out); (case s2 => exact Kd.K_drew0 qK2.out); rintro e w1 ⟨rfl, hb⟩))
          go_wp2
          go_ret
          exact ⟨by rw [decide_eq_false (fun h => HE2.out (by rw [h]))]; rfl, below_step (below_drew1 HW.out) hb⟩
      · go_wp2
        go_ret
        exact ⟨by rw [decide_eq_true (el_ext zIns HL.out (fun i hi => HE.out i (by omega)))]; rfl, HW.out⟩
  · have b1 : ((l.length : Int) != (m.length : Int)) = true := by simp; omega
    have HL := Aside0.mk hlen
    clear hr hr2 hlen
    go_enter Try.func140, Try.ntmps140
    go_wp2
    go_ret
    exact ⟨by rw [decide_eq_false (fun h => HL.out (by rw [h]))]; rfl, Below.refl _ _⟩
set_option maxHeartbeats 4000000 in
set_option maxRecDepth 100000 in
theorem eqCap (x y : Cap) (cs ds : List Value) (w : World) (hk : kCap.K w x cs) (hk2 : kCap.K w y ds) :
    Calls Try.prog 165 #[.agg ⟨cs⟩, .agg ⟨ds⟩] w fun e w' => e = .returned (.bool (decide (x = y))) ∧ Below w.heap.size w w' := by
  have ecs := kCap_open hk
  subst ecs
  have eds := kCap_open hk2
  subst eds
  clear hk hk2
  have hu := Try.underlying105
  by_cases h0 : x.reg = y.reg
  · skip
    have b0 : (x.reg == y.reg) = true := beq_iff_eq.mpr h0
    have d0 : (x.reg != y.reg) = false := bne_eq_false_iff_eq.mpr h0
    by_cases h1 : x.index = y.index
    · skip
      have b1 : (x.index == y.index) = true := beq_iff_eq.mpr h1
      have d1 : (x.index != y.index) = false := bne_eq_false_iff_eq.mpr h1
      have hfin : decide (x = y) = true := decide_eq_true (by cases x; cases y; simp_all)
      have HF := Aside0.mk hfin
      clear hfin
      clear h0
      clear h1
      go_enter Try.func165, Try.ntmps165
      go_wp2
      go_ret
      exact ⟨by rw [HF.out]; rfl, by repeat (first | exact Below.refl _ _ | apply below_alloc | apply below_drew1 | apply pw_below_drewN | assumption)⟩
    · skip
      have b1 : (x.index == y.index) = false := beq_eq_false_iff_ne.mpr h1
      have d1 : (x.index != y.index) = true := bne_iff_ne.mpr h1
      have hfin : decide (x = y) = false := decide_eq_false (fun e => h1 (by rw [e]))
      have HF := Aside0.mk hfin
      clear hfin
      clear h0
      clear h1
      go_enter Try.func165, Try.ntmps165
      go_wp2
      go_ret
      exact ⟨by rw [HF.out]; rfl, by repeat (first | exact Below.refl _ _ | apply below_alloc | apply below_drew1 | apply pw_below_drewN | assumption)⟩
  · skip
    have b0 : (x.reg == y.reg) = false := beq_eq_false_iff_ne.mpr h0
    have d0 : (x.reg != y.reg) = true := bne_iff_ne.mpr h0
    have hfin : decide (x = y) = false := decide_eq_false (fun e => h0 (by rw [e]))
    have HF := Aside0.mk hfin
    clear hfin
    clear h0
    go_enter Try.func165, Try.ntmps165
    go_wp2
    go_ret
    exact ⟨by rw [HF.out]; rfl, by repeat (first | exact Below.refl _ _ | apply below_alloc | apply below_drew1 | apply pw_below_drewN | assumption)⟩
set_option maxHeartbeats 4000000 in
set_option maxRecDepth 100000 in
theorem eqCapS (A B : Option Addr) (c d : Nat) (l m : List Cap) (w : World) (hr : kCap.C w A l.length l) (hr2 : kCap.C w B m.length m) :
    Calls Try.prog 139 #[.slice A l.length c, .slice B m.length d] w fun e w' => e = .returned (.bool (decide (l = m))) ∧ Below w.heap.size w w' := by
  have hL : l.length ≤ 9223372036854775807 := hr.2.1
  by_cases hlen : l.length = m.length
  · have b1 : ((l.length : Int) != (m.length : Int)) = false := by simp [hlen]
    have HR := Aside0.mk hr; have HR2 := Aside0.mk hr2; have HL := Aside0.mk hlen
    clear hr hr2 hlen
    go_enter Try.func139, Try.ntmps139
    go_wp2
    go_loopw [5] (fun v wr => ∃ j : Nat, v = .int .i64 j ∧ j ≤ l.length ∧ Aside0 (∀ i : Nat, i < j → el zCap l i = el zCap m i) ∧ Aside0 (Below w.heap.size w wr)) (fun v _ => l.length - (intOf v).toNat)
    case atStart => exact ⟨0, rfl, by omega, ⟨fun i hi => by omega⟩, ⟨Below.refl _ _⟩⟩
    case round =>
      obtain ⟨j, rfl, hj, HE, HW⟩ := hrel
      by_cases hlt : j < l.length
      · obtain ⟨pa, rfl, pK, px0, px1⟩ := Cap_at (Kd.C_below HR.out HW.out) j hlt
        have pK2 := Aside0.mk pK; clear pK
        obtain ⟨qa, rfl, qK, qx0, qx1⟩ := Cap_at (Kd.C_below HR2.out HW.out) j (by have := HL.out; omega)
        have qK2 := Aside0.mk qK; clear qK
        have i1 : (0 : Int) ≤ (j : Int) := by omega
        have i2 : (j : Int) < (l.length : Int) := by omega
        have i3 : (j : Int) < (m.length : Int) := by have := HL.out; omega
        by_cases he : el zCap l j = el zCap m j
        · have b2 : decide (el zCap l j = el zCap m j) = true := decide_eq_true he
          have HE2 := Aside0.mk he
          clear he
          go_wp2
          have HS : Aside0 (∀ W : World, Below wr.heap.size wr W → W.cell? (pa.add (j * 2)) = some (.bool (el zCap l j).reg) ∧ W.cell? ⟨(pa.add (j * 2)).block, (pa.add (j * 2)).off + 1, none⟩ = some (.int .i64 (el zCap l j).index) ∧ W.cell? (qa.add (j * 2)) = some (.bool (el zCap m j).reg) ∧ W.cell? ⟨(qa.add (j * 2)).block, (qa.add (j * 2)).off + 1, none⟩ = some (.int .i64 (el zCap m j).index)) := ⟨fun W hB => ⟨pw_cell_below hB px0, pw_cell_below hB px1, pw_cell_below hB qx0, pw_cell_below hB qx1⟩⟩
          go_region_held3 (fun W => W.cell? (pa.add (j * 2)) = some (.bool (el zCap l j).reg) ∧ W.cell? ⟨(pa.add (j * 2)).block, (pa.add (j * 2)).off + 1, none⟩ = some (.int .i64 (el zCap l j).index) ∧ W.cell? (qa.add (j * 2)) = some (.bool (el zCap m j).reg) ∧ W.cell? ⟨(qa.add (j * 2)).block, (qa.add (j * 2)).off + 1, none⟩ = some (.int .i64 (el zCap m j).index)) (first | exact HS.out _ (below_step (below_drew1 (Below.refl _ _)) hb) | exact HS.out _ (below_drew1 (Below.refl _ _))) (first | (go_at_call 165; refine (eqCap (el zCap l j) (el zCap m j) _ _ _ ?s1 ?s2).mono ?_; (case s1 => exact Kd.K_drew0 pK2.out); (case s2 => exact Kd.K_drew0 qK2.out); rintro e w1 ⟨rfl, hb⟩))
          go_wp2
          go_roundw
          case rel => exact ⟨j + 1, by go_num, by omega, ⟨fun i hi => by rcases Nat.lt_succ_iff_lt_or_eq.1 hi with h | h; exact HE.out i h; rw [h]; exact HE2.out⟩, ⟨below_step (below_drew1 HW.out) hb⟩⟩
          case measure => simp [intOf]; omega
        · have b2 : decide (el zCap l j = el zCap m j) = false := decide_eq_false he
          have HE2 := Aside0.mk he
          clear he
          go_wp2
          have HS : Aside0 (∀ W : World, Below wr.heap.size wr W → W.cell? (pa.add (j * 2)) = some (.bool (el zCap l j).reg) ∧ W.cell? ⟨(pa.add (j * 2)).block, (pa.add (j * 2)).off + 1, none⟩ = some (.int .i64 (el zCap l j).index) ∧ W.cell? (qa.add (j * 2)) = some (.bool (el zCap m j).reg) ∧ W.cell? ⟨(qa.add (j * 2)).block, (qa.add (j * 2)).off + 1, none⟩ = some (.int .i64 (el zCap m j).index)) := ⟨fun W hB => ⟨pw_cell_below hB px0, pw_cell_below hB px1, pw_cell_below hB qx0, pw_cell_below hB qx1⟩⟩
          go_region_held3 (fun W => W.cell? (pa.add (j * 2)) = some (.bool (el zCap l j).reg) ∧ W.cell? ⟨(pa.add (j * 2)).block, (pa.add (j * 2)).off + 1, none⟩ = some (.int .i64 (el zCap l j).index) ∧ W.cell? (qa.add (j * 2)) = some (.bool (el zCap m j).reg) ∧ W.cell? ⟨(qa.add (j * 2)).block, (qa.add (j * 2)).off + 1, none⟩ = some (.int .i64 (el zCap m j).index)) (first | exact HS.out _ (below_step (below_drew1 (Below.refl _ _)) hb) | exact HS.out _ (below_drew1 (Below.refl _ _))) (first | (go_at_call 165; refine (eqCap (el zCap l j) (el zCap m j) _ _ _ ?s1 ?s2).mono ?_; (case s1 => exact Kd.K_drew0 pK2.out); (case s2 => exact Kd.K_drew0 qK2.out); rintro e w1 ⟨rfl, hb⟩))
          go_wp2
          go_ret
          exact ⟨by rw [decide_eq_false (fun h => HE2.out (by rw [h]))]; rfl, below_step (below_drew1 HW.out) hb⟩
      · go_wp2
        go_ret
        exact ⟨by rw [decide_eq_true (el_ext zCap HL.out (fun i hi => HE.out i (by omega)))]; rfl, HW.out⟩
  · have b1 : ((l.length : Int) != (m.length : Int)) = true := by simp; omega
    have HL := Aside0.mk hlen
    clear hr hr2 hlen
    go_enter Try.func139, Try.ntmps139
    go_wp2
    go_ret
    exact ⟨by rw [decide_eq_false (fun h => HL.out (by rw [h]))]; rfl, Below.refl _ _⟩
set_option maxHeartbeats 4000000 in
set_option maxRecDepth 100000 in
theorem eqHandler (x y : Handler) (cs ds : List Value) (w : World) (hk : kHandler.K w x cs) (hk2 : kHandler.K w y ds) :
    Calls Try.prog 167 #[.agg ⟨cs⟩, .agg ⟨ds⟩] w fun e w' => e = .returned (.bool (decide (x = y))) ∧ Below w.heap.size w w' := by
  have ecs := kHandler_open hk
  subst ecs
  have eds := kHandler_open hk2
  subst eds
  clear hk hk2
  have hu := Try.underlying107
  by_cases h0 : x.from_ = y.from_
  · skip
    have b0 : (x.from_ == y.from_) = true := beq_iff_eq.mpr h0
    have d0 : (x.from_ != y.from_) = false := bne_eq_false_iff_eq.mpr h0
    by_cases h1 : x.to_ = y.to_
    · skip
      have b1 : (x.to_ == y.to_) = true := beq_iff_eq.mpr h1
      have d1 : (x.to_ != y.to_) = false := bne_eq_false_iff_eq.mpr h1
      by_cases h2 : x.target = y.target
      · skip
        have b2 : (x.target == y.target) = true := beq_iff_eq.mpr h2
        have d2 : (x.target != y.target) = false := bne_eq_false_iff_eq.mpr h2
        have hfin : decide (x = y) = true := decide_eq_true (by cases x; cases y; simp_all)
        have HF := Aside0.mk hfin
        clear hfin
        clear h0
        clear h1
        clear h2
        go_enter Try.func167, Try.ntmps167
        go_wp2
        go_ret
        exact ⟨by rw [HF.out]; rfl, by repeat (first | exact Below.refl _ _ | apply below_alloc | apply below_drew1 | apply pw_below_drewN | assumption)⟩
      · skip
        have b2 : (x.target == y.target) = false := beq_eq_false_iff_ne.mpr h2
        have d2 : (x.target != y.target) = true := bne_iff_ne.mpr h2
        have hfin : decide (x = y) = false := decide_eq_false (fun e => h2 (by rw [e]))
        have HF := Aside0.mk hfin
        clear hfin
        clear h0
        clear h1
        clear h2
        go_enter Try.func167, Try.ntmps167
        go_wp2
        go_ret
        exact ⟨by rw [HF.out]; rfl, by repeat (first | exact Below.refl _ _ | apply below_alloc | apply below_drew1 | apply pw_below_drewN | assumption)⟩
    · skip
      have b1 : (x.to_ == y.to_) = false := beq_eq_false_iff_ne.mpr h1
      have d1 : (x.to_ != y.to_) = true := bne_iff_ne.mpr h1
      have hfin : decide (x = y) = false := decide_eq_false (fun e => h1 (by rw [e]))
      have HF := Aside0.mk hfin
      clear hfin
      clear h0
      clear h1
      go_enter Try.func167, Try.ntmps167
      go_wp2
      go_ret
      exact ⟨by rw [HF.out]; rfl, by repeat (first | exact Below.refl _ _ | apply below_alloc | apply below_drew1 | apply pw_below_drewN | assumption)⟩
  · skip
    have b0 : (x.from_ == y.from_) = false := beq_eq_false_iff_ne.mpr h0
    have d0 : (x.from_ != y.from_) = true := bne_iff_ne.mpr h0
    have hfin : decide (x = y) = false := decide_eq_false (fun e => h0 (by rw [e]))
    have HF := Aside0.mk hfin
    clear hfin
    clear h0
    go_enter Try.func167, Try.ntmps167
    go_wp2
    go_ret
    exact ⟨by rw [HF.out]; rfl, by repeat (first | exact Below.refl _ _ | apply below_alloc | apply below_drew1 | apply pw_below_drewN | assumption)⟩
set_option maxHeartbeats 4000000 in
set_option maxRecDepth 100000 in
theorem eqHandlerS (A B : Option Addr) (c d : Nat) (l m : List Handler) (w : World) (hr : kHandler.C w A l.length l) (hr2 : kHandler.C w B m.length m) :
    Calls Try.prog 141 #[.slice A l.length c, .slice B m.length d] w fun e w' => e = .returned (.bool (decide (l = m))) ∧ Below w.heap.size w w' := by
  have hL : l.length ≤ 9223372036854775807 := hr.2.1
  by_cases hlen : l.length = m.length
  · have b1 : ((l.length : Int) != (m.length : Int)) = false := by simp [hlen]
    have HR := Aside0.mk hr; have HR2 := Aside0.mk hr2; have HL := Aside0.mk hlen
    clear hr hr2 hlen
    go_enter Try.func141, Try.ntmps141
    go_wp2
    go_loopw [5] (fun v wr => ∃ j : Nat, v = .int .i64 j ∧ j ≤ l.length ∧ Aside0 (∀ i : Nat, i < j → el zHandler l i = el zHandler m i) ∧ Aside0 (Below w.heap.size w wr)) (fun v _ => l.length - (intOf v).toNat)
    case atStart => exact ⟨0, rfl, by omega, ⟨fun i hi => by omega⟩, ⟨Below.refl _ _⟩⟩
    case round =>
      obtain ⟨j, rfl, hj, HE, HW⟩ := hrel
      by_cases hlt : j < l.length
      · obtain ⟨pa, rfl, pK, px0, px1, px2⟩ := Handler_at (Kd.C_below HR.out HW.out) j hlt
        have pK2 := Aside0.mk pK; clear pK
        obtain ⟨qa, rfl, qK, qx0, qx1, qx2⟩ := Handler_at (Kd.C_below HR2.out HW.out) j (by have := HL.out; omega)
        have qK2 := Aside0.mk qK; clear qK
        have i1 : (0 : Int) ≤ (j : Int) := by omega
        have i2 : (j : Int) < (l.length : Int) := by omega
        have i3 : (j : Int) < (m.length : Int) := by have := HL.out; omega
        by_cases he : el zHandler l j = el zHandler m j
        · have b2 : decide (el zHandler l j = el zHandler m j) = true := decide_eq_true he
          have HE2 := Aside0.mk he
          clear he
          go_wp2
          have HS : Aside0 (∀ W : World, Below wr.heap.size wr W → W.cell? (pa.add (j * 3)) = some (.int .i64 (el zHandler l j).from_) ∧ W.cell? ⟨(pa.add (j * 3)).block, (pa.add (j * 3)).off + 1, none⟩ = some (.int .i64 (el zHandler l j).to_) ∧ W.cell? ⟨(pa.add (j * 3)).block, (pa.add (j * 3)).off + 2, none⟩ = some (.int .i64 (el zHandler l j).target) ∧ W.cell? (qa.add (j * 3)) = some (.int .i64 (el zHandler m j).from_) ∧ W.cell? ⟨(qa.add (j * 3)).block, (qa.add (j * 3)).off + 1, none⟩ = some (.int .i64 (el zHandler m j).to_) ∧ W.cell? ⟨(qa.add (j * 3)).block, (qa.add (j * 3)).off + 2, none⟩ = some (.int .i64 (el zHandler m j).target)) := ⟨fun W hB => ⟨pw_cell_below hB px0, pw_cell_below hB px1, pw_cell_below hB px2, pw_cell_below hB qx0, pw_cell_below hB qx1, pw_cell_below hB qx2⟩⟩
          go_region_held3 (fun W => W.cell? (pa.add (j * 3)) = some (.int .i64 (el zHandler l j).from_) ∧ W.cell? ⟨(pa.add (j * 3)).block, (pa.add (j * 3)).off + 1, none⟩ = some (.int .i64 (el zHandler l j).to_) ∧ W.cell? ⟨(pa.add (j * 3)).block, (pa.add (j * 3)).off + 2, none⟩ = some (.int .i64 (el zHandler l j).target) ∧ W.cell? (qa.add (j * 3)) = some (.int .i64 (el zHandler m j).from_) ∧ W.cell? ⟨(qa.add (j * 3)).block, (qa.add (j * 3)).off + 1, none⟩ = some (.int .i64 (el zHandler m j).to_) ∧ W.cell? ⟨(qa.add (j * 3)).block, (qa.add (j * 3)).off + 2, none⟩ = some (.int .i64 (el zHandler m j).target)) (first | exact HS.out _ (below_step (below_drew1 (Below.refl _ _)) hb) | exact HS.out _ (below_drew1 (Below.refl _ _))) (first | (go_at_call 167; refine (eqHandler (el zHandler l j) (el zHandler m j) _ _ _ ?s1 ?s2).mono ?_; (case s1 => exact Kd.K_drew0 pK2.out); (case s2 => exact Kd.K_drew0 qK2.out); rintro e w1 ⟨rfl, hb⟩))
          go_wp2
          go_roundw
          case rel => exact ⟨j + 1, by go_num, by omega, ⟨fun i hi => by rcases Nat.lt_succ_iff_lt_or_eq.1 hi with h | h; exact HE.out i h; rw [h]; exact HE2.out⟩, ⟨below_step (below_drew1 HW.out) hb⟩⟩
          case measure => simp [intOf]; omega
        · have b2 : decide (el zHandler l j = el zHandler m j) = false := decide_eq_false he
          have HE2 := Aside0.mk he
          clear he
          go_wp2
          have HS : Aside0 (∀ W : World, Below wr.heap.size wr W → W.cell? (pa.add (j * 3)) = some (.int .i64 (el zHandler l j).from_) ∧ W.cell? ⟨(pa.add (j * 3)).block, (pa.add (j * 3)).off + 1, none⟩ = some (.int .i64 (el zHandler l j).to_) ∧ W.cell? ⟨(pa.add (j * 3)).block, (pa.add (j * 3)).off + 2, none⟩ = some (.int .i64 (el zHandler l j).target) ∧ W.cell? (qa.add (j * 3)) = some (.int .i64 (el zHandler m j).from_) ∧ W.cell? ⟨(qa.add (j * 3)).block, (qa.add (j * 3)).off + 1, none⟩ = some (.int .i64 (el zHandler m j).to_) ∧ W.cell? ⟨(qa.add (j * 3)).block, (qa.add (j * 3)).off + 2, none⟩ = some (.int .i64 (el zHandler m j).target)) := ⟨fun W hB => ⟨pw_cell_below hB px0, pw_cell_below hB px1, pw_cell_below hB px2, pw_cell_below hB qx0, pw_cell_below hB qx1, pw_cell_below hB qx2⟩⟩
          go_region_held3 (fun W => W.cell? (pa.add (j * 3)) = some (.int .i64 (el zHandler l j).from_) ∧ W.cell? ⟨(pa.add (j * 3)).block, (pa.add (j * 3)).off + 1, none⟩ = some (.int .i64 (el zHandler l j).to_) ∧ W.cell? ⟨(pa.add (j * 3)).block, (pa.add (j * 3)).off + 2, none⟩ = some (.int .i64 (el zHandler l j).target) ∧ W.cell? (qa.add (j * 3)) = some (.int .i64 (el zHandler m j).from_) ∧ W.cell? ⟨(qa.add (j * 3)).block, (qa.add (j * 3)).off + 1, none⟩ = some (.int .i64 (el zHandler m j).to_) ∧ W.cell? ⟨(qa.add (j * 3)).block, (qa.add (j * 3)).off + 2, none⟩ = some (.int .i64 (el zHandler m j).target)) (first | exact HS.out _ (below_step (below_drew1 (Below.refl _ _)) hb) | exact HS.out _ (below_drew1 (Below.refl _ _))) (first | (go_at_call 167; refine (eqHandler (el zHandler l j) (el zHandler m j) _ _ _ ?s1 ?s2).mono ?_; (case s1 => exact Kd.K_drew0 pK2.out); (case s2 => exact Kd.K_drew0 qK2.out); rintro e w1 ⟨rfl, hb⟩))
          go_wp2
          go_ret
          exact ⟨by rw [decide_eq_false (fun h => HE2.out (by rw [h]))]; rfl, below_step (below_drew1 HW.out) hb⟩
      · go_wp2
        go_ret
        exact ⟨by rw [decide_eq_true (el_ext zHandler HL.out (fun i hi => HE.out i (by omega)))]; rfl, HW.out⟩
  · have b1 : ((l.length : Int) != (m.length : Int)) = true := by simp; omega
    have HL := Aside0.mk hlen
    clear hr hr2 hlen
    go_enter Try.func141, Try.ntmps141
    go_wp2
    go_ret
    exact ⟨by rw [decide_eq_false (fun h => HL.out (by rw [h]))]; rfl, Below.refl _ _⟩
set_option maxHeartbeats 4000000 in
set_option maxRecDepth 100000 in
theorem eqConst (x y : Const) (cs ds : List Value) (w : World) (hk : kConst.K w x cs) (hk2 : kConst.K w y ds) :
    Calls Try.prog 105 #[.agg ⟨cs⟩, .agg ⟨ds⟩] w fun e w' => e = .returned (.bool (decide (x = y))) ∧ Below w.heap.size w w' := by
  have ecs := kConst_open hk
  subst ecs
  have eds := kConst_open hk2
  subst eds
  clear hk hk2
  have hu := Try.underlying100
  by_cases h0 : x.kind = y.kind
  · skip
    have b0 : (x.kind == y.kind) = true := beq_iff_eq.mpr h0
    have d0 : (x.kind != y.kind) = false := bne_eq_false_iff_eq.mpr h0
    by_cases h1 : x.num = y.num
    · skip
      have b1 : (x.num == y.num) = true := beq_iff_eq.mpr h1
      have d1 : (x.num != y.num) = false := bne_eq_false_iff_eq.mpr h1
      by_cases h2 : x.text = y.text
      · skip
        have b2 : (x.text.toList == y.text.toList) = true := by rw [h2]; exact beq_self_eq_true _
        have d2 : (x.text.toList != y.text.toList) = false := by rw [h2]; exact bne_self_eq_false _
        have hfin : decide (x = y) = true := decide_eq_true (by cases x; cases y; simp_all)
        have HF := Aside0.mk hfin
        clear hfin
        clear h0
        clear h1
        clear h2
        go_enter Try.func105, Try.ntmps105
        go_wp2
        go_ret
        exact ⟨by rw [HF.out]; rfl, by repeat (first | exact Below.refl _ _ | apply below_alloc | apply below_drew1 | apply pw_below_drewN | assumption)⟩
      · skip
        have n2 : ¬ x.text.toList = y.text.toList := fun e => h2 (bytes_ext e)
        have b2 : (x.text.toList == y.text.toList) = false := beq_eq_false_iff_ne.mpr n2
        have d2 : (x.text.toList != y.text.toList) = true := bne_iff_ne.mpr n2
        clear n2
        have hfin : decide (x = y) = false := decide_eq_false (fun e => h2 (by rw [e]))
        have HF := Aside0.mk hfin
        clear hfin
        clear h0
        clear h1
        clear h2
        go_enter Try.func105, Try.ntmps105
        go_wp2
        go_ret
        exact ⟨by rw [HF.out]; rfl, by repeat (first | exact Below.refl _ _ | apply below_alloc | apply below_drew1 | apply pw_below_drewN | assumption)⟩
    · skip
      have b1 : (x.num == y.num) = false := beq_eq_false_iff_ne.mpr h1
      have d1 : (x.num != y.num) = true := bne_iff_ne.mpr h1
      have hfin : decide (x = y) = false := decide_eq_false (fun e => h1 (by rw [e]))
      have HF := Aside0.mk hfin
      clear hfin
      clear h0
      clear h1
      go_enter Try.func105, Try.ntmps105
      go_wp2
      go_ret
      exact ⟨by rw [HF.out]; rfl, by repeat (first | exact Below.refl _ _ | apply below_alloc | apply below_drew1 | apply pw_below_drewN | assumption)⟩
  · skip
    have b0 : (x.kind == y.kind) = false := beq_eq_false_iff_ne.mpr h0
    have d0 : (x.kind != y.kind) = true := bne_iff_ne.mpr h0
    have hfin : decide (x = y) = false := decide_eq_false (fun e => h0 (by rw [e]))
    have HF := Aside0.mk hfin
    clear hfin
    clear h0
    go_enter Try.func105, Try.ntmps105
    go_wp2
    go_ret
    exact ⟨by rw [HF.out]; rfl, by repeat (first | exact Below.refl _ _ | apply below_alloc | apply below_drew1 | apply pw_below_drewN | assumption)⟩
set_option maxHeartbeats 4000000 in
set_option maxRecDepth 100000 in
theorem eqConstS (A B : Option Addr) (c d : Nat) (l m : List Const) (w : World) (hr : kConst.C w A l.length l) (hr2 : kConst.C w B m.length m) :
    Calls Try.prog 63 #[.slice A l.length c, .slice B m.length d] w fun e w' => e = .returned (.bool (decide (l = m))) ∧ Below w.heap.size w w' := by
  have hL : l.length ≤ 9223372036854775807 := hr.2.1
  by_cases hlen : l.length = m.length
  · have b1 : ((l.length : Int) != (m.length : Int)) = false := by simp [hlen]
    have HR := Aside0.mk hr; have HR2 := Aside0.mk hr2; have HL := Aside0.mk hlen
    clear hr hr2 hlen
    go_enter Try.func63, Try.ntmps63
    go_wp2
    go_loopw [5] (fun v wr => ∃ j : Nat, v = .int .i64 j ∧ j ≤ l.length ∧ Aside0 (∀ i : Nat, i < j → el zConst l i = el zConst m i) ∧ Aside0 (Below w.heap.size w wr)) (fun v _ => l.length - (intOf v).toNat)
    case atStart => exact ⟨0, rfl, by omega, ⟨fun i hi => by omega⟩, ⟨Below.refl _ _⟩⟩
    case round =>
      obtain ⟨j, rfl, hj, HE, HW⟩ := hrel
      by_cases hlt : j < l.length
      · obtain ⟨pa, rfl, pK, px0, px1, px2⟩ := Const_at (Kd.C_below HR.out HW.out) j hlt
        have pK2 := Aside0.mk pK; clear pK
        obtain ⟨qa, rfl, qK, qx0, qx1, qx2⟩ := Const_at (Kd.C_below HR2.out HW.out) j (by have := HL.out; omega)
        have qK2 := Aside0.mk qK; clear qK
        have i1 : (0 : Int) ≤ (j : Int) := by omega
        have i2 : (j : Int) < (l.length : Int) := by omega
        have i3 : (j : Int) < (m.length : Int) := by have := HL.out; omega
        by_cases he : el zConst l j = el zConst m j
        · have b2 : decide (el zConst l j = el zConst m j) = true := decide_eq_true he
          have HE2 := Aside0.mk he
          clear he
          go_wp2
          have HS : Aside0 (∀ W : World, Below wr.heap.size wr W → W.cell? (pa.add (j * 3)) = some (.int .i64 (el zConst l j).kind) ∧ W.cell? ⟨(pa.add (j * 3)).block, (pa.add (j * 3)).off + 1, none⟩ = some (.int .u64 (el zConst l j).num) ∧ W.cell? ⟨(pa.add (j * 3)).block, (pa.add (j * 3)).off + 2, none⟩ = some (.string (el zConst l j).text) ∧ W.cell? (qa.add (j * 3)) = some (.int .i64 (el zConst m j).kind) ∧ W.cell? ⟨(qa.add (j * 3)).block, (qa.add (j * 3)).off + 1, none⟩ = some (.int .u64 (el zConst m j).num) ∧ W.cell? ⟨(qa.add (j * 3)).block, (qa.add (j * 3)).off + 2, none⟩ = some (.string (el zConst m j).text)) := ⟨fun W hB => ⟨pw_cell_below hB px0, pw_cell_below hB px1, pw_cell_below hB px2, pw_cell_below hB qx0, pw_cell_below hB qx1, pw_cell_below hB qx2⟩⟩
          go_region_held3 (fun W => W.cell? (pa.add (j * 3)) = some (.int .i64 (el zConst l j).kind) ∧ W.cell? ⟨(pa.add (j * 3)).block, (pa.add (j * 3)).off + 1, none⟩ = some (.int .u64 (el zConst l j).num) ∧ W.cell? ⟨(pa.add (j * 3)).block, (pa.add (j * 3)).off + 2, none⟩ = some (.string (el zConst l j).text) ∧ W.cell? (qa.add (j * 3)) = some (.int .i64 (el zConst m j).kind) ∧ W.cell? ⟨(qa.add (j * 3)).block, (qa.add (j * 3)).off + 1, none⟩ = some (.int .u64 (el zConst m j).num) ∧ W.cell? ⟨(qa.add (j * 3)).block, (qa.add (j * 3)).off + 2, none⟩ = some (.string (el zConst m j).text)) (first | exact HS.out _ (below_step (below_drew1 (Below.refl _ _)) hb) | exact HS.out _ (below_drew1 (Below.refl _ _))) (first | (go_at_call 105; refine (eqConst (el zConst l j) (el zConst m j) _ _ _ ?s1 ?s2).mono ?_; (case s1 => exact Kd.K_drew0 pK2.out); (case s2 => exact Kd.K_drew0 qK2.out); rintro e w1 ⟨rfl, hb⟩))
          go_wp2
          go_roundw
          case rel => exact ⟨j + 1, by go_num, by omega, ⟨fun i hi => by rcases Nat.lt_succ_iff_lt_or_eq.1 hi with h | h; exact HE.out i h; rw [h]; exact HE2.out⟩, ⟨below_step (below_drew1 HW.out) hb⟩⟩
          case measure => simp [intOf]; omega
        · have b2 : decide (el zConst l j = el zConst m j) = false := decide_eq_false he
          have HE2 := Aside0.mk he
          clear he
          go_wp2
          have HS : Aside0 (∀ W : World, Below wr.heap.size wr W → W.cell? (pa.add (j * 3)) = some (.int .i64 (el zConst l j).kind) ∧ W.cell? ⟨(pa.add (j * 3)).block, (pa.add (j * 3)).off + 1, none⟩ = some (.int .u64 (el zConst l j).num) ∧ W.cell? ⟨(pa.add (j * 3)).block, (pa.add (j * 3)).off + 2, none⟩ = some (.string (el zConst l j).text) ∧ W.cell? (qa.add (j * 3)) = some (.int .i64 (el zConst m j).kind) ∧ W.cell? ⟨(qa.add (j * 3)).block, (qa.add (j * 3)).off + 1, none⟩ = some (.int .u64 (el zConst m j).num) ∧ W.cell? ⟨(qa.add (j * 3)).block, (qa.add (j * 3)).off + 2, none⟩ = some (.string (el zConst m j).text)) := ⟨fun W hB => ⟨pw_cell_below hB px0, pw_cell_below hB px1, pw_cell_below hB px2, pw_cell_below hB qx0, pw_cell_below hB qx1, pw_cell_below hB qx2⟩⟩
          go_region_held3 (fun W => W.cell? (pa.add (j * 3)) = some (.int .i64 (el zConst l j).kind) ∧ W.cell? ⟨(pa.add (j * 3)).block, (pa.add (j * 3)).off + 1, none⟩ = some (.int .u64 (el zConst l j).num) ∧ W.cell? ⟨(pa.add (j * 3)).block, (pa.add (j * 3)).off + 2, none⟩ = some (.string (el zConst l j).text) ∧ W.cell? (qa.add (j * 3)) = some (.int .i64 (el zConst m j).kind) ∧ W.cell? ⟨(qa.add (j * 3)).block, (qa.add (j * 3)).off + 1, none⟩ = some (.int .u64 (el zConst m j).num) ∧ W.cell? ⟨(qa.add (j * 3)).block, (qa.add (j * 3)).off + 2, none⟩ = some (.string (el zConst m j).text)) (first | exact HS.out _ (below_step (below_drew1 (Below.refl _ _)) hb) | exact HS.out _ (below_drew1 (Below.refl _ _))) (first | (go_at_call 105; refine (eqConst (el zConst l j) (el zConst m j) _ _ _ ?s1 ?s2).mono ?_; (case s1 => exact Kd.K_drew0 pK2.out); (case s2 => exact Kd.K_drew0 qK2.out); rintro e w1 ⟨rfl, hb⟩))
          go_wp2
          go_ret
          exact ⟨by rw [decide_eq_false (fun h => HE2.out (by rw [h]))]; rfl, below_step (below_drew1 HW.out) hb⟩
      · go_wp2
        go_ret
        exact ⟨by rw [decide_eq_true (el_ext zConst HL.out (fun i hi => HE.out i (by omega)))]; rfl, HW.out⟩
  · have b1 : ((l.length : Int) != (m.length : Int)) = true := by simp; omega
    have HL := Aside0.mk hlen
    clear hr hr2 hlen
    go_enter Try.func63, Try.ntmps63
    go_wp2
    go_ret
    exact ⟨by rw [decide_eq_false (fun h => HL.out (by rw [h]))]; rfl, Below.refl _ _⟩
end Go.Proofs.Ytcbaokflimdjnaa
end
section
namespace Go.Proofs.Ytcbaokflimdjnaa
open Go.RowKit Go.Proofs.YtcbaokflimdjnaaW.PrintWords Go.Proofs.YtcbaokflimdjnaaW.PrintMore Go.Proofs.Ytcbaokflimdjnaa.Law Go.Proofs.Ytcbaokflimdjnaa.Num
set_option linter.unusedVariables false
set_option linter.unusedSimpArgs false
set_option maxHeartbeats 4000000 in
set_option maxRecDepth 100000 in
theorem eqFunc (x y : Func) (cs ds : List Value) (w : World) (hk : kFuncI.K w x cs) (hk2 : kFuncI.K w y ds) :
    Calls Try.prog 104 #[.agg ⟨cs⟩, .agg ⟨ds⟩] w fun e w' => e = .returned (.bool (decide (x = y))) ∧ Below w.heap.size w w' := by
  obtain ⟨pA2, pc2, pA3, pc3, pA4, pc4, rfl, pl2, pg2, pl3, pg3, pl4, pg4⟩ := kFuncI_open hk
  have pG2 := Aside0.mk pg2; have pL2 := Aside0.mk pl2; clear pg2 pl2
  have pG3 := Aside0.mk pg3; have pL3 := Aside0.mk pl3; clear pg3 pl3
  have pG4 := Aside0.mk pg4; have pL4 := Aside0.mk pl4; clear pg4 pl4
  obtain ⟨qA2, qc2, qA3, qc3, qA4, qc4, rfl, ql2, qg2, ql3, qg3, ql4, qg4⟩ := kFuncI_open hk2
  have qG2 := Aside0.mk qg2; have qL2 := Aside0.mk ql2; clear qg2 ql2
  have qG3 := Aside0.mk qg3; have qL3 := Aside0.mk ql3; clear qg3 ql3
  have qG4 := Aside0.mk qg4; have qL4 := Aside0.mk ql4; clear qg4 ql4
  clear hk hk2
  have hu := Try.underlying73
  have A0 := Aside0.mk (((At.start w).alloc #[.int .i64 x.params, .int .i64 x.regs, .slice pA2 x.caps.length pc2, .slice pA3 x.code.length pc3, .slice pA4 x.handlers.length pc4] 73).alloc #[.int .i64 y.params, .int .i64 y.regs, .slice qA2 y.caps.length qc2, .slice qA3 y.code.length qc3, .slice qA4 y.handlers.length qc4] 73)
  rw [show (w.alloc (.cells #[.int .i64 x.params, .int .i64 x.regs, .slice pA2 x.caps.length pc2, .slice pA3 x.code.length pc3, .slice pA4 x.handlers.length pc4] 73)).heap.size = w.heap.size + 1 by simp] at A0
  by_cases h0 : x.params = y.params
  · skip
    have b0 : (x.params == y.params) = true := beq_iff_eq.mpr h0
    have d0 : (x.params != y.params) = false := bne_eq_false_iff_eq.mpr h0
    by_cases h1 : x.regs = y.regs
    · skip
      have b1 : (x.regs == y.regs) = true := beq_iff_eq.mpr h1
      have d1 : (x.regs != y.regs) = false := bne_eq_false_iff_eq.mpr h1
      by_cases h2 : x.caps = y.caps
      · skip
        have d2 : decide (x.caps = y.caps) = true := decide_eq_true h2
        by_cases h3 : x.code = y.code
        · skip
          have d3 : decide (x.code = y.code) = true := decide_eq_true h3
          by_cases h4 : x.handlers = y.handlers
          · skip
            have d4 : decide (x.handlers = y.handlers) = true := decide_eq_true h4
            have hfin : decide (x = y) = true := decide_eq_true (by cases x; cases y; simp_all)
            have HF := Aside0.mk hfin
            clear hfin
            clear h0
            clear h1
            clear h2
            clear h3
            clear h4
            go_enter Try.func104, Try.ntmps104
            go_wp2_with fail
            refine (eqCapS _ _ _ _ _ _ _ (A0.out.reads pG2.out) (A0.out.reads qG2.out)).mono ?_
            rintro e w1 ⟨rfl, hb0⟩
            have hb := hb0
            have A1 := Aside0.mk (A0.out.step hb)
            clear hb hb0 A0
            have z0 := A1.out.cell1; have z1 := A1.out.cell0
            go_wp2_with fail
            refine (eqInsS _ _ _ _ _ _ _ (A1.out.reads pG3.out) (A1.out.reads qG3.out)).mono ?_
            rintro e w2 ⟨rfl, hb0⟩
            have hb := hb0
            have A2 := Aside0.mk (A1.out.step hb)
            clear hb hb0 A1 z0 z1
            have z0 := A2.out.cell1; have z1 := A2.out.cell0
            go_wp2_with fail
            refine (eqHandlerS _ _ _ _ _ _ _ (A2.out.reads pG4.out) (A2.out.reads qG4.out)).mono ?_
            rintro e w3 ⟨rfl, hb0⟩
            have hb := hb0
            have A3 := Aside0.mk (A2.out.step hb)
            clear hb hb0 A2 z0 z1
            have z0 := A3.out.cell1; have z1 := A3.out.cell0
            go_wp2
            go_ret
            exact ⟨by rw [HF.out]; rfl, A3.out.below⟩
          · skip
            have d4 : decide (x.handlers = y.handlers) = false := decide_eq_false h4
            have hfin : decide (x = y) = false := decide_eq_false (fun e => h4 (by rw [e]))
            have HF := Aside0.mk hfin
            clear hfin
            clear h0
            clear h1
            clear h2
            clear h3
            clear h4
            go_enter Try.func104, Try.ntmps104
            go_wp2_with fail
            refine (eqCapS _ _ _ _ _ _ _ (A0.out.reads pG2.out) (A0.out.reads qG2.out)).mono ?_
            rintro e w1 ⟨rfl, hb0⟩
            have hb := hb0
            have A1 := Aside0.mk (A0.out.step hb)
            clear hb hb0 A0
            have z0 := A1.out.cell1; have z1 := A1.out.cell0
            go_wp2_with fail
            refine (eqInsS _ _ _ _ _ _ _ (A1.out.reads pG3.out) (A1.out.reads qG3.out)).mono ?_
            rintro e w2 ⟨rfl, hb0⟩
            have hb := hb0
            have A2 := Aside0.mk (A1.out.step hb)
            clear hb hb0 A1 z0 z1
            have z0 := A2.out.cell1; have z1 := A2.out.cell0
            go_wp2_with fail
            refine (eqHandlerS _ _ _ _ _ _ _ (A2.out.reads pG4.out) (A2.out.reads qG4.out)).mono ?_
            rintro e w3 ⟨rfl, hb0⟩
            have hb := hb0
            have A3 := Aside0.mk (A2.out.step hb)
            clear hb hb0 A2 z0 z1
            have z0 := A3.out.cell1; have z1 := A3.out.cell0
            go_wp2
            go_ret
            exact ⟨by rw [HF.out]; rfl, A3.out.below⟩
        · skip
          have d3 : decide (x.code = y.code) = false := decide_eq_false h3
          have hfin : decide (x = y) = false := decide_eq_false (fun e => h3 (by rw [e]))
          have HF := Aside0.mk hfin
          clear hfin
          clear h0
          clear h1
          clear h2
          clear h3
          go_enter Try.func104, Try.ntmps104
          go_wp2_with fail
          refine (eqCapS _ _ _ _ _ _ _ (A0.out.reads pG2.out) (A0.out.reads qG2.out)).mono ?_
          rintro e w1 ⟨rfl, hb0⟩
          have hb := hb0
          have A1 := Aside0.mk (A0.out.step hb)
          clear hb hb0 A0
          have z0 := A1.out.cell1; have z1 := A1.out.cell0
          go_wp2_with fail
          refine (eqInsS _ _ _ _ _ _ _ (A1.out.reads pG3.out) (A1.out.reads qG3.out)).mono ?_
          rintro e w2 ⟨rfl, hb0⟩
          have hb := hb0
          have A2 := Aside0.mk (A1.out.step hb)
          clear hb hb0 A1 z0 z1
          have z0 := A2.out.cell1; have z1 := A2.out.cell0
          go_wp2
          go_ret
          exact ⟨by rw [HF.out]; rfl, A2.out.below⟩
      · skip
        have d2 : decide (x.caps = y.caps) = false := decide_eq_false h2
        have hfin : decide (x = y) = false := decide_eq_false (fun e => h2 (by rw [e]))
        have HF := Aside0.mk hfin
        clear hfin
        clear h0
        clear h1
        clear h2
        go_enter Try.func104, Try.ntmps104
        go_wp2_with fail
        refine (eqCapS _ _ _ _ _ _ _ (A0.out.reads pG2.out) (A0.out.reads qG2.out)).mono ?_
        rintro e w1 ⟨rfl, hb0⟩
        have hb := hb0
        have A1 := Aside0.mk (A0.out.step hb)
        clear hb hb0 A0
        have z0 := A1.out.cell1; have z1 := A1.out.cell0
        go_wp2
        go_ret
        exact ⟨by rw [HF.out]; rfl, A1.out.below⟩
    · skip
      have b1 : (x.regs == y.regs) = false := beq_eq_false_iff_ne.mpr h1
      have d1 : (x.regs != y.regs) = true := bne_iff_ne.mpr h1
      have hfin : decide (x = y) = false := decide_eq_false (fun e => h1 (by rw [e]))
      have HF := Aside0.mk hfin
      clear hfin
      clear h0
      clear h1
      go_enter Try.func104, Try.ntmps104
      go_wp2
      go_ret
      exact ⟨by rw [HF.out]; rfl, by repeat (first | exact Below.refl _ _ | apply below_alloc | apply below_drew1 | apply pw_below_drewN | assumption)⟩
  · skip
    have b0 : (x.params == y.params) = false := beq_eq_false_iff_ne.mpr h0
    have d0 : (x.params != y.params) = true := bne_iff_ne.mpr h0
    have hfin : decide (x = y) = false := decide_eq_false (fun e => h0 (by rw [e]))
    have HF := Aside0.mk hfin
    clear hfin
    clear h0
    go_enter Try.func104, Try.ntmps104
    go_wp2
    go_ret
    exact ⟨by rw [HF.out]; rfl, by repeat (first | exact Below.refl _ _ | apply below_alloc | apply below_drew1 | apply pw_below_drewN | assumption)⟩
set_option maxHeartbeats 4000000 in
set_option maxRecDepth 100000 in
theorem eqFuncS (A B : Option Addr) (c d : Nat) (l m : List Func) (w : World) (hr : kFuncI.C w A l.length l) (hr2 : kFuncI.C w B m.length m) :
    Calls Try.prog 62 #[.slice A l.length c, .slice B m.length d] w fun e w' => e = .returned (.bool (decide (l = m))) ∧ Below w.heap.size w w' := by
  have hL : l.length ≤ 9223372036854775807 := hr.2.1
  by_cases hlen : l.length = m.length
  · have b1 : ((l.length : Int) != (m.length : Int)) = false := by simp [hlen]
    have HR := Aside0.mk hr; have HR2 := Aside0.mk hr2; have HL := Aside0.mk hlen
    clear hr hr2 hlen
    go_enter Try.func62, Try.ntmps62
    go_wp2
    go_loopw [5] (fun v wr => ∃ j : Nat, v = .int .i64 j ∧ j ≤ l.length ∧ Aside0 (∀ i : Nat, i < j → el zFunc l i = el zFunc m i) ∧ Aside0 (Below w.heap.size w wr)) (fun v _ => l.length - (intOf v).toNat)
    case atStart => exact ⟨0, rfl, by omega, ⟨fun i hi => by omega⟩, ⟨Below.refl _ _⟩⟩
    case round =>
      obtain ⟨j, rfl, hj, HE, HW⟩ := hrel
      by_cases hlt : j < l.length
      · obtain ⟨pa, pA2, pc2, pA3, pc3, pA4, pc4, rfl, pK, px0, px1, px2, px3, px4⟩ := FuncI_at (Kd.C_below HR.out HW.out) j hlt
        have pK2 := Aside0.mk pK; clear pK
        obtain ⟨qa, qA2, qc2, qA3, qc3, qA4, qc4, rfl, qK, qx0, qx1, qx2, qx3, qx4⟩ := FuncI_at (Kd.C_below HR2.out HW.out) j (by have := HL.out; omega)
        have qK2 := Aside0.mk qK; clear qK
        have i1 : (0 : Int) ≤ (j : Int) := by omega
        have i2 : (j : Int) < (l.length : Int) := by omega
        have i3 : (j : Int) < (m.length : Int) := by have := HL.out; omega
        by_cases he : el zFunc l j = el zFunc m j
        · have b2 : decide (el zFunc l j = el zFunc m j) = true := decide_eq_true he
          have HE2 := Aside0.mk he
          clear he
          go_wp2
          have HS : Aside0 (∀ W : World, Below wr.heap.size wr W → W.cell? (pa.add (j * 5)) = some (.int .i64 (el zFunc l j).params) ∧ W.cell? ⟨(pa.add (j * 5)).block, (pa.add (j * 5)).off + 1, none⟩ = some (.int .i64 (el zFunc l j).regs) ∧ W.cell? ⟨(pa.add (j * 5)).block, (pa.add (j * 5)).off + 2, none⟩ = some (.slice pA2 (el zFunc l j).caps.length pc2) ∧ W.cell? ⟨(pa.add (j * 5)).block, (pa.add (j * 5)).off + 3, none⟩ = some (.slice pA3 (el zFunc l j).code.length pc3) ∧ W.cell? ⟨(pa.add (j * 5)).block, (pa.add (j * 5)).off + 4, none⟩ = some (.slice pA4 (el zFunc l j).handlers.length pc4) ∧ W.cell? (qa.add (j * 5)) = some (.int .i64 (el zFunc m j).params) ∧ W.cell? ⟨(qa.add (j * 5)).block, (qa.add (j * 5)).off + 1, none⟩ = some (.int .i64 (el zFunc m j).regs) ∧ W.cell? ⟨(qa.add (j * 5)).block, (qa.add (j * 5)).off + 2, none⟩ = some (.slice qA2 (el zFunc m j).caps.length qc2) ∧ W.cell? ⟨(qa.add (j * 5)).block, (qa.add (j * 5)).off + 3, none⟩ = some (.slice qA3 (el zFunc m j).code.length qc3) ∧ W.cell? ⟨(qa.add (j * 5)).block, (qa.add (j * 5)).off + 4, none⟩ = some (.slice qA4 (el zFunc m j).handlers.length qc4)) := ⟨fun W hB => ⟨pw_cell_below hB px0, pw_cell_below hB px1, pw_cell_below hB px2, pw_cell_below hB px3, pw_cell_below hB px4, pw_cell_below hB qx0, pw_cell_below hB qx1, pw_cell_below hB qx2, pw_cell_below hB qx3, pw_cell_below hB qx4⟩⟩
          go_region_held3 (fun W => W.cell? (pa.add (j * 5)) = some (.int .i64 (el zFunc l j).params) ∧ W.cell? ⟨(pa.add (j * 5)).block, (pa.add (j * 5)).off + 1, none⟩ = some (.int .i64 (el zFunc l j).regs) ∧ W.cell? ⟨(pa.add (j * 5)).block, (pa.add (j * 5)).off + 2, none⟩ = some (.slice pA2 (el zFunc l j).caps.length pc2) ∧ W.cell? ⟨(pa.add (j * 5)).block, (pa.add (j * 5)).off + 3, none⟩ = some (.slice pA3 (el zFunc l j).code.length pc3) ∧ W.cell? ⟨(pa.add (j * 5)).block, (pa.add (j * 5)).off + 4, none⟩ = some (.slice pA4 (el zFunc l j).handlers.length pc4) ∧ W.cell? (qa.add (j * 5)) = some (.int .i64 (el zFunc m j).params) ∧ W.cell? ⟨(qa.add (j * 5)).block, (qa.add (j * 5)).off + 1, none⟩ = some (.int .i64 (el zFunc m j).regs) ∧ W.cell? ⟨(qa.add (j * 5)).block, (qa.add (j * 5)).off + 2, none⟩ = some (.slice qA2 (el zFunc m j).caps.length qc2) ∧ W.cell? ⟨(qa.add (j * 5)).block, (qa.add (j * 5)).off + 3, none⟩ = some (.slice qA3 (el zFunc m j).code.length qc3) ∧ W.cell? ⟨(qa.add (j * 5)).block, (qa.add (j * 5)).off + 4, none⟩ = some (.slice qA4 (el zFunc m j).handlers.length qc4)) (first | exact HS.out _ (below_step (below_drew1 (Below.refl _ _)) hb) | exact HS.out _ (below_drew1 (Below.refl _ _))) (first | (go_at_call 104; refine (eqFunc (el zFunc l j) (el zFunc m j) _ _ _ ?s1 ?s2).mono ?_; (case s1 => exact Kd.K_drew0 pK2.out); (case s2 => exact Kd.K_drew0 qK2.out); rintro e w1 ⟨rfl, hb⟩))
          go_wp2
          go_roundw
          case rel => exact ⟨j + 1, by go_num, by omega, ⟨fun i hi => by rcases Nat.lt_succ_iff_lt_or_eq.1 hi with h | h; exact HE.out i h; rw [h]; exact HE2.out⟩, ⟨below_step (below_drew1 HW.out) hb⟩⟩
          case measure => simp [intOf]; omega
        · have b2 : decide (el zFunc l j = el zFunc m j) = false := decide_eq_false he
          have HE2 := Aside0.mk he
          clear he
          go_wp2
          have HS : Aside0 (∀ W : World, Below wr.heap.size wr W → W.cell? (pa.add (j * 5)) = some (.int .i64 (el zFunc l j).params) ∧ W.cell? ⟨(pa.add (j * 5)).block, (pa.add (j * 5)).off + 1, none⟩ = some (.int .i64 (el zFunc l j).regs) ∧ W.cell? ⟨(pa.add (j * 5)).block, (pa.add (j * 5)).off + 2, none⟩ = some (.slice pA2 (el zFunc l j).caps.length pc2) ∧ W.cell? ⟨(pa.add (j * 5)).block, (pa.add (j * 5)).off + 3, none⟩ = some (.slice pA3 (el zFunc l j).code.length pc3) ∧ W.cell? ⟨(pa.add (j * 5)).block, (pa.add (j * 5)).off + 4, none⟩ = some (.slice pA4 (el zFunc l j).handlers.length pc4) ∧ W.cell? (qa.add (j * 5)) = some (.int .i64 (el zFunc m j).params) ∧ W.cell? ⟨(qa.add (j * 5)).block, (qa.add (j * 5)).off + 1, none⟩ = some (.int .i64 (el zFunc m j).regs) ∧ W.cell? ⟨(qa.add (j * 5)).block, (qa.add (j * 5)).off + 2, none⟩ = some (.slice qA2 (el zFunc m j).caps.length qc2) ∧ W.cell? ⟨(qa.add (j * 5)).block, (qa.add (j * 5)).off + 3, none⟩ = some (.slice qA3 (el zFunc m j).code.length qc3) ∧ W.cell? ⟨(qa.add (j * 5)).block, (qa.add (j * 5)).off + 4, none⟩ = some (.slice qA4 (el zFunc m j).handlers.length qc4)) := ⟨fun W hB => ⟨pw_cell_below hB px0, pw_cell_below hB px1, pw_cell_below hB px2, pw_cell_below hB px3, pw_cell_below hB px4, pw_cell_below hB qx0, pw_cell_below hB qx1, pw_cell_below hB qx2, pw_cell_below hB qx3, pw_cell_below hB qx4⟩⟩
          go_region_held3 (fun W => W.cell? (pa.add (j * 5)) = some (.int .i64 (el zFunc l j).params) ∧ W.cell? ⟨(pa.add (j * 5)).block, (pa.add (j * 5)).off + 1, none⟩ = some (.int .i64 (el zFunc l j).regs) ∧ W.cell? ⟨(pa.add (j * 5)).block, (pa.add (j * 5)).off + 2, none⟩ = some (.slice pA2 (el zFunc l j).caps.length pc2) ∧ W.cell? ⟨(pa.add (j * 5)).block, (pa.add (j * 5)).off + 3, none⟩ = some (.slice pA3 (el zFunc l j).code.length pc3) ∧ W.cell? ⟨(pa.add (j * 5)).block, (pa.add (j * 5)).off + 4, none⟩ = some (.slice pA4 (el zFunc l j).handlers.length pc4) ∧ W.cell? (qa.add (j * 5)) = some (.int .i64 (el zFunc m j).params) ∧ W.cell? ⟨(qa.add (j * 5)).block, (qa.add (j * 5)).off + 1, none⟩ = some (.int .i64 (el zFunc m j).regs) ∧ W.cell? ⟨(qa.add (j * 5)).block, (qa.add (j * 5)).off + 2, none⟩ = some (.slice qA2 (el zFunc m j).caps.length qc2) ∧ W.cell? ⟨(qa.add (j * 5)).block, (qa.add (j * 5)).off + 3, none⟩ = some (.slice qA3 (el zFunc m j).code.length qc3) ∧ W.cell? ⟨(qa.add (j * 5)).block, (qa.add (j * 5)).off + 4, none⟩ = some (.slice qA4 (el zFunc m j).handlers.length qc4)) (first | exact HS.out _ (below_step (below_drew1 (Below.refl _ _)) hb) | exact HS.out _ (below_drew1 (Below.refl _ _))) (first | (go_at_call 104; refine (eqFunc (el zFunc l j) (el zFunc m j) _ _ _ ?s1 ?s2).mono ?_; (case s1 => exact Kd.K_drew0 pK2.out); (case s2 => exact Kd.K_drew0 qK2.out); rintro e w1 ⟨rfl, hb⟩))
          go_wp2
          go_ret
          exact ⟨by rw [decide_eq_false (fun h => HE2.out (by rw [h]))]; rfl, below_step (below_drew1 HW.out) hb⟩
      · go_wp2
        go_ret
        exact ⟨by rw [decide_eq_true (el_ext zFunc HL.out (fun i hi => HE.out i (by omega)))]; rfl, HW.out⟩
  · have b1 : ((l.length : Int) != (m.length : Int)) = true := by simp; omega
    have HL := Aside0.mk hlen
    clear hr hr2 hlen
    go_enter Try.func62, Try.ntmps62
    go_wp2
    go_ret
    exact ⟨by rw [decide_eq_false (fun h => HL.out (by rw [h]))]; rfl, Below.refl _ _⟩
set_option maxHeartbeats 4000000 in
set_option maxRecDepth 100000 in
theorem eqImage (x y : Image) (cs ds : List Value) (w : World) (hk : kImageI.K w x cs) (hk2 : kImageI.K w y ds) :
    Calls Try.prog 19 #[.agg ⟨cs⟩, .agg ⟨ds⟩] w fun e w' => e = .returned (.bool (decide (x = y))) ∧ Below w.heap.size w w' := by
  obtain ⟨pA0, pc0, pA1, pc1, rfl, pl0, pg0, pl1, pg1⟩ := kImageI_open hk
  have pG0 := Aside0.mk pg0; have pL0 := Aside0.mk pl0; clear pg0 pl0
  have pG1 := Aside0.mk pg1; have pL1 := Aside0.mk pl1; clear pg1 pl1
  obtain ⟨qA0, qc0, qA1, qc1, rfl, ql0, qg0, ql1, qg1⟩ := kImageI_open hk2
  have qG0 := Aside0.mk qg0; have qL0 := Aside0.mk ql0; clear qg0 ql0
  have qG1 := Aside0.mk qg1; have qL1 := Aside0.mk ql1; clear qg1 ql1
  clear hk hk2
  have hu := Try.underlying37
  have A0 := Aside0.mk (((At.start w).alloc #[.slice pA0 x.funcs.length pc0, .slice pA1 x.consts.length pc1] 37).alloc #[.slice qA0 y.funcs.length qc0, .slice qA1 y.consts.length qc1] 37)
  rw [show (w.alloc (.cells #[.slice pA0 x.funcs.length pc0, .slice pA1 x.consts.length pc1] 37)).heap.size = w.heap.size + 1 by simp] at A0
  by_cases h0 : x.funcs = y.funcs
  · skip
    have d0 : decide (x.funcs = y.funcs) = true := decide_eq_true h0
    by_cases h1 : x.consts = y.consts
    · skip
      have d1 : decide (x.consts = y.consts) = true := decide_eq_true h1
      have hfin : decide (x = y) = true := decide_eq_true (by cases x; cases y; simp_all)
      have HF := Aside0.mk hfin
      clear hfin
      clear h0
      clear h1
      go_enter Try.func19, Try.ntmps19
      go_wp2_with fail
      refine (eqFuncS _ _ _ _ _ _ _ (A0.out.reads pG0.out) (A0.out.reads qG0.out)).mono ?_
      rintro e w1 ⟨rfl, hb0⟩
      have hb := hb0
      have A1 := Aside0.mk (A0.out.step hb)
      clear hb hb0 A0
      have z0 := A1.out.cell1; have z1 := A1.out.cell0
      go_wp2_with fail
      refine (eqConstS _ _ _ _ _ _ _ (A1.out.reads pG1.out) (A1.out.reads qG1.out)).mono ?_
      rintro e w2 ⟨rfl, hb0⟩
      have hb := hb0
      have A2 := Aside0.mk (A1.out.step hb)
      clear hb hb0 A1 z0 z1
      have z0 := A2.out.cell1; have z1 := A2.out.cell0
      go_wp2
      go_ret
      exact ⟨by rw [HF.out]; rfl, A2.out.below⟩
    · skip
      have d1 : decide (x.consts = y.consts) = false := decide_eq_false h1
      have hfin : decide (x = y) = false := decide_eq_false (fun e => h1 (by rw [e]))
      have HF := Aside0.mk hfin
      clear hfin
      clear h0
      clear h1
      go_enter Try.func19, Try.ntmps19
      go_wp2_with fail
      refine (eqFuncS _ _ _ _ _ _ _ (A0.out.reads pG0.out) (A0.out.reads qG0.out)).mono ?_
      rintro e w1 ⟨rfl, hb0⟩
      have hb := hb0
      have A1 := Aside0.mk (A0.out.step hb)
      clear hb hb0 A0
      have z0 := A1.out.cell1; have z1 := A1.out.cell0
      go_wp2_with fail
      refine (eqConstS _ _ _ _ _ _ _ (A1.out.reads pG1.out) (A1.out.reads qG1.out)).mono ?_
      rintro e w2 ⟨rfl, hb0⟩
      have hb := hb0
      have A2 := Aside0.mk (A1.out.step hb)
      clear hb hb0 A1 z0 z1
      have z0 := A2.out.cell1; have z1 := A2.out.cell0
      go_wp2
      go_ret
      exact ⟨by rw [HF.out]; rfl, A2.out.below⟩
  · skip
    have d0 : decide (x.funcs = y.funcs) = false := decide_eq_false h0
    have hfin : decide (x = y) = false := decide_eq_false (fun e => h0 (by rw [e]))
    have HF := Aside0.mk hfin
    clear hfin
    clear h0
    go_enter Try.func19, Try.ntmps19
    go_wp2_with fail
    refine (eqFuncS _ _ _ _ _ _ _ (A0.out.reads pG0.out) (A0.out.reads qG0.out)).mono ?_
    rintro e w1 ⟨rfl, hb0⟩
    have hb := hb0
    have A1 := Aside0.mk (A0.out.step hb)
    clear hb hb0 A0
    have z0 := A1.out.cell1; have z1 := A1.out.cell0
    go_wp2
    go_ret
    exact ⟨by rw [HF.out]; rfl, A1.out.below⟩
end Go.Proofs.Ytcbaokflimdjnaa
end
