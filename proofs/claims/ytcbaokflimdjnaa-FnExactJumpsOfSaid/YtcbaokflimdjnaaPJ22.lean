/- Part 22 of the proof: general lemmas, contracts of functions, walks. No condition of its own. -/
import Derived.WalkKit
import Derived.KernelRfl
import Derived.Deep.LoopGhost
import Derived.Deep.QuietTactic
import Derived.BigQuiet
import Derived.RowKit3
import Derived.Deep.RegionWith
import Derived.Deep.RegionHeld3
import Derived.WalkLawsBesides
import Derived.Deep.DeepCutAuto
import Derived.ProofKit
import Derived.OpenShut
import Derived.ChangeOld
import Derived.ChangeShapes
import Derived.WideShapes
import Derived.ChangeArms
import Derived.DataReads
import Derived.DataElems
import Derived.Test.YtcbaokflimdjnaaPJ21
import Derived.Test.YtcbaokflimdjnaaPJ10
import Derived.Test.YtcbaokflimdjnaaPJ2
import Derived.Test.YtcbaokflimdjnaaPJ12
import Derived.Test.YtcbaokflimdjnaaPJ1
section
namespace Go.Proofs.Ytcbaokflimdjnaa
open Go.RowKit Go.Proofs.YtcbaokflimdjnaaW.PrintWords Go.Proofs.YtcbaokflimdjnaaW.PrintMore Go.Proofs.Ytcbaokflimdjnaa.Law Go.Proofs.Ytcbaokflimdjnaa.Num Go.Proofs.Ytcbaokflimdjnaa.QFnExactVerify
set_option linter.unusedVariables false
set_option linter.unusedSimpArgs false
set_option autoImplicit false
theorem ty_apart {w : World} {k : Nat} {E1 E2 : List Nat} (hd : ∀ a ∈ E1, ∀ b ∈ E2, a ≠ b) (h1 : ∃ q, q ∈ E1 ∧ ∃ cells, w.heap[k]? = some (.cells cells q (0, 0))) (h2 : ∃ q, q ∈ E2 ∧ ∃ cells, w.heap[k]? = some (.cells cells q (0, 0))) : False := by
  obtain ⟨a, ha, c1, e1⟩ := h1
  obtain ⟨b, hb, c2, e2⟩ := h2
  rw [e1] at e2
  injection e2 with e2
  injection e2 with _ e2
  exact hd a ha b hb e2
def cntFunc (x : Func) : Nat := 2 + 2 * x.caps.length + 3 * x.code.length + 3 * x.handlers.length
def mkFunc (x : Func) (k : Int) : Func := ⟨k, k + 1, mkCapS (k + 1 + 1) x.caps.length, mkInsS (k + 1 + 1 + 2 * (x.caps.length : Int)) x.code.length, mkHandlerS (k + 1 + 1 + 2 * (x.caps.length : Int) + 3 * (x.code.length : Int)) x.handlers.length⟩
def cntFuncs (l : List Func) : Nat := (l.map cntFunc).sum
def mkFuncS (k : Int) (l : List Func) : List Func := (List.range l.length).map (fun (j : Nat) => mkFunc (el zFunc l j) (k + (cntFuncs (l.take j) : Int)))
theorem mkFuncS_len (k : Int) (l : List Func) : (mkFuncS k l).length = l.length := by simp [mkFuncS]
theorem el_mkFuncS (k : Int) {l : List Func} {j : Nat} (h : j < l.length) : el zFunc (mkFuncS k l) j = mkFunc (el zFunc l j) (k + (cntFuncs (l.take j) : Int)) := by
  unfold mkFuncS
  rw [el_lt zFunc (by simpa using h), List.getElem_map, List.getElem_range]
theorem cnt_step {l : List Func} {j : Nat} (h : j < l.length) : cntFuncs (l.take (j + 1)) = cntFuncs (l.take j) + cntFunc (el zFunc l j) := by
  unfold cntFuncs
  rw [List.take_add_one, List.getElem?_eq_getElem h, List.map_append, List.sum_append, el_lt zFunc h]
  simp
theorem cnt_le (l : List Func) (j : Nat) : cntFuncs (l.take j) ≤ cntFuncs l := by
  have h : l.take j ++ l.drop j = l := List.take_append_drop j l
  have h2 : cntFuncs l = cntFuncs (l.take j) + cntFuncs (l.drop j) := by
    conv => lhs; rw [← h]
    unfold cntFuncs
    rw [List.map_append, List.sum_append]
  omega
set_option maxHeartbeats 8000000 in
set_option maxRecDepth 100000 in
theorem markFuncS (v1 : Value) (l : List Func) (k : Int) (w0 w : World) (lo : Nat) (ok : Nat → Prop) (hB : Below w0.heap.size w0 w) (hlo : w0.heap.size ≤ lo) (hr : Kd.S kFuncI 73 w lo ok v1 l) (h0 : 0 ≤ k) (h1 : k + (cntFuncs l : Int) ≤ 4611686018427387904) (hll : l.length ≤ 1048576) :
    Calls Try.prog 64 #[v1, .int .i64 k] w fun e w' => e = .returned (.int .i64 (k + (cntFuncs l : Int))) ∧ Kd.S kFuncI 73 w' lo ok v1 (mkFuncS k l) ∧ Below w0.heap.size w0 w' ∧ Kept w w' ok := by
  have HB := Aside0.mk hB
  have HO := Aside0.mk hr
  have HK := Aside0.mk (Kept.refl w ok)
  have HOK := Aside0.mk (Kd.S_R hr).1
  have hu := Try.underlying73
  obtain ⟨A, c, rfl⟩ := Kd.S_slice hr
  clear hB hr
  go_enter Try.func64, Try.ntmps64
  go_wp2
  go_loopw [1, 5] (fun u v wr => ∃ (j : Nat) (kk : Int) (xs : List Func), u = .int .i64 kk ∧ v = .int .i64 j ∧ Aside0 (kk = k + (cntFuncs (l.take j) : Int)) ∧ j ≤ l.length ∧ xs.length = l.length ∧ Aside0 (∀ i : Nat, i < j → el zFunc xs i = el zFunc (mkFuncS k l) i) ∧ Aside0 (∀ i : Nat, j ≤ i → el zFunc xs i = el zFunc l i) ∧ Aside0 (Kd.S kFuncI 73 wr lo ok (.slice A l.length c) xs) ∧ Aside0 (Below w0.heap.size w0 wr) ∧ Aside0 (Kept w wr ok)) (fun u v _ => l.length - (intOf v).toNat)
  case atStart => exact ⟨0, k, l, rfl, rfl, ⟨by simp [cntFuncs]⟩, by omega, rfl, ⟨fun i hi => by omega⟩, ⟨fun i hi => rfl⟩, HO, HB, HK⟩
  case round =>
    clear HO HB HK
    obtain ⟨j, kk, xs, rfl, rfl, HKK, hj, hn, HE, HE2, HO, HB, HK⟩ := hrel
    by_cases hlt : j < l.length
    rotate_left
    · have hb2 : ¬ (j : Int) < (l.length : Int) := by omega
      have hj2 : j = l.length := by omega
      have he : xs = mkFuncS k l := el_ext zFunc (by rw [hn, mkFuncS_len]) (fun i hi => HE.out i (by omega))
      subst he
      have hke := HKK.out
      rw [hj2, List.take_length] at hke
      subst hke
      go_wp2
      go_ret
      exact ⟨rfl, HO.out, HB.out, HK.out⟩
    have hb2 : (j : Int) < (l.length : Int) := by omega
    have hj0 : (0 : Int) ≤ (j : Int) := by omega
    obtain ⟨y, hy⟩ : ∃ y, y = el zFunc l j := ⟨_, rfl⟩
    have HCN := Aside0.mk (cnt_step hlt)
    rw [← hy] at HCN
    have HY := Aside0.mk hy; clear hy
    have hkb : 0 ≤ kk ∧ kk + 2 + 2 * y.caps.length + 3 * y.code.length + 3 * y.handlers.length ≤ 4611686018427387904 := by
      have h1 := HKK.out; have h2 := HCN.out; have h3 := cnt_le l (j + 1)
      unfold cntFunc at h2
      omega
    have hkk : 0 ≤ kk ∧ kk ≤ 4611686018427387904 := by omega
    obtain ⟨go, co, hv, gb, gl, HG0⟩ := Kd.S_form HO.out (by omega)
    rw [hn] at hv
    have hg : ok go := HOK.out go (by rw [hv]; simp [Value.ownBlock])
    injection hv with hA _ hc
    subst hA; subst hc; clear HG0
    obtain ⟨oki, c1, hcl, hM, hcc, hfr, hoki, hH⟩ := Kd.S_elem HO.out zFunc (j : Int) (by omega) (by omega)
    rw [Int.toNat_natCast, show xs.getD j zFunc = y from by rw [HY.out]; exact HE2.out j (Nat.le_refl _)] at hM
    obtain ⟨v2, v3, v4, rfl, r2, r3, r4⟩ := kFuncI_openM hM
    rw [Int.toNat_natCast] at hcc hfr
    have y0 := hcc 0 _ rfl; replace y0 : wr.cell? ⟨go, j * 5, none⟩ = _ := y0; have f0 := hfr 0; replace f0 : wr.frozen? ⟨go, j * 5, none⟩ = false := f0
    have y1 := hcc 1 _ rfl; replace y1 : wr.cell? ⟨go, j * 5 + 1, none⟩ = _ := y1; have f1 := hfr 1; replace f1 : wr.frozen? ⟨go, j * 5 + 1, none⟩ = false := f1
    have hS := Kd.H_seg hH (by omega) (by omega) (seg := [.int .i64 kk, .int .i64 (kk + 1)]) (j := 0) (show 2 ≤ 5 from by decide) (by intro q hq; simp at hq; rcases hq with rfl | rfl <;> rfl)
    have hF := fun (b : Nat) (hb : oki b) => (hoki b hb).2
    have S1 : Aside0 (Kd.S kFuncI 73 ((wr.setCell ⟨go, j * 5, none⟩ (.int .i64 kk)).setCell ⟨go, j * 5 + 1, none⟩ (.int .i64 (kk + 1))) lo ok (.slice (some ⟨go, 0, none⟩) l.length c) (xs.set j ⟨kk, kk + 1, y.caps, y.code, y.handlers⟩)) :=
      ⟨Kd.H_back hS.1 (kFuncI_mkM _ _ _ ⟨kk, kk + 1, y.caps, y.code, y.handlers⟩ (Kd.R_far (Kd.R_far r2 (p := ⟨go, j * 5, none⟩) hF (.int .i64 kk)) (p := ⟨go, j * 5 + 1, none⟩) hF (.int .i64 (kk + 1))) (Kd.R_far (Kd.R_far r3 (p := ⟨go, j * 5, none⟩) hF (.int .i64 kk)) (p := ⟨go, j * 5 + 1, none⟩) hF (.int .i64 (kk + 1))) (Kd.R_far (Kd.R_far r4 (p := ⟨go, j * 5, none⟩) hF (.int .i64 kk)) (p := ⟨go, j * 5 + 1, none⟩) hF (.int .i64 (kk + 1)))) (fun _ h => h)⟩
    have B1 := Aside0.mk (below_set (below_set HB.out (Nat.le_trans hlo gb) (j := j * 5) (v := .int .i64 kk)) (Nat.le_trans hlo gb) (j := j * 5 + 1) (v := .int .i64 (kk + 1)))
    have K1 := Aside0.mk (Kept.setCell (Kept.setCell HK.out (p := ⟨go, j * 5, none⟩) (.inl hg) (.int .i64 kk)) (p := ⟨go, j * 5 + 1, none⟩) (.inl hg) (.int .i64 (kk + 1)))
    have GB := Aside0.mk gb
    clear hcl hM hcc hfr hoki hH hS hF r2 r3 r4 gb gl hg
    go_upto_region 8 with fail
    clear y0 y1 f0 f1
    generalize (wr.setCell ⟨go, j * 5, none⟩ (.int .i64 kk)).setCell ⟨go, j * 5 + 1, none⟩ (.int .i64 (kk + 1)) = w1 at S1 B1 K1 ⊢
    have hx1 : (xs.set j ⟨kk, kk + 1, y.caps, y.code, y.handlers⟩).length = l.length := by simpa using hn
    obtain ⟨oki, c1, hcl, hM, hcc, hfr, hoki, hH⟩ := Kd.S_elem S1.out zFunc (j : Int) (by omega) (by omega)
    rw [Int.toNat_natCast, show (xs.set j (⟨kk, kk + 1, y.caps, y.code, y.handlers⟩ : Func)).getD j zFunc = (⟨kk, kk + 1, y.caps, y.code, y.handlers⟩ : Func) from el_set_eq (by omega)] at hM
    obtain ⟨v2, v3, v4, rfl, r2, r3, r4⟩ := kFuncI_openM hM
    rw [Int.toNat_natCast] at hcc
    obtain ⟨B, d, hvb⟩ := Kd.R_slice r2; have yb := hcc 2 _ rfl; replace yb : w1.cell? ⟨go, j * 5 + 2, none⟩ = _ := yb
    rw [hvb] at yb
    have RB := Aside0.mk (Kd.R_bound r2)
    rw [hvb] at RB
    have Q3 := Aside0.mk (Kd.R_bound r3)
    have Q4 := Aside0.mk (Kd.R_bound r4)
    have HH := Aside0.mk hH; have HI := Aside0.mk hoki; have HV := Aside0.mk hvb
    clear hcl hM hcc hfr hoki hH r2 r3 r4 hvb
    go_wp2_with fail
    refine (markCapS _ y.caps (kk + 1 + 1) w0 _ lo _ B1.out hlo RB.out (by omega) (by omega)).mono ?_; rintro e w2 ⟨rfl, hr, hb, hk⟩
    rw [← HV.out] at hr
    have S2 := Aside0.mk (Kd.H_back (Kd.H_kept HH.out hk (fun k _ hn h2 => hn h2.1)) (kFuncI_mkM _ _ _ (⟨kk, kk + 1, mkCapS (kk + 1 + 1) y.caps.length, y.code, y.handlers⟩ : Func) (Kd.R_mono hr (fun k hk => hk.1)) (Kd.R_mono (Kd.R_kept Q3.out hk (fun k h1 h2 => ty_apart (E1 := 76 :: kIns.E) (E2 := 105 :: kCap.E) (by decide) h1.2.2.2 h2.2.2.2)) (fun k hk => hk.1)) (Kd.R_mono (Kd.R_kept Q4.out hk (fun k h1 h2 => ty_apart (E1 := 107 :: kHandler.E) (E2 := 105 :: kCap.E) (by decide) h1.2.2.2 h2.2.2.2)) (fun k hk => hk.1))) (fun _ h => h))
    rw [Int.toNat_natCast, List.set_set] at S2
    have B2 := Aside0.mk hb; have K2 := Aside0.mk (Kept.then_ K1.out hk (fun k h => .inl (HI.out k h.1).1))
    have hx2 : (xs.set j (⟨kk, kk + 1, mkCapS (kk + 1 + 1) y.caps.length, y.code, y.handlers⟩ : Func)).length = l.length := by simpa using hn
    clear hr hb hk yb RB HH HI HV S1 B1 K1 Q3 Q4 hx1
    obtain ⟨oki, c1, hcl, hM, hcc, hfr, hoki, hH⟩ := Kd.S_elem S2.out zFunc (j : Int) (by omega) (by omega)
    rw [Int.toNat_natCast, show (xs.set j (⟨kk, kk + 1, mkCapS (kk + 1 + 1) y.caps.length, y.code, y.handlers⟩ : Func)).getD j zFunc = (⟨kk, kk + 1, mkCapS (kk + 1 + 1) y.caps.length, y.code, y.handlers⟩ : Func) from el_set_eq (by omega)] at hM
    obtain ⟨v2, v3, v4, rfl, r2, r3, r4⟩ := kFuncI_openM hM
    rw [Int.toNat_natCast] at hcc
    obtain ⟨B, d, hvb⟩ := Kd.R_slice r3; have yb := hcc 3 _ rfl; replace yb : w2.cell? ⟨go, j * 5 + 3, none⟩ = _ := yb
    rw [hvb] at yb
    have RB := Aside0.mk (Kd.R_bound r3)
    rw [hvb] at RB
    have Q2 := Aside0.mk (Kd.R_bound r2)
    have Q4 := Aside0.mk (Kd.R_bound r4)
    have HH := Aside0.mk hH; have HI := Aside0.mk hoki; have HV := Aside0.mk hvb
    clear hcl hM hcc hfr hoki hH r2 r3 r4 hvb
    go_wp2_with fail
    refine (markInsS _ y.code (kk + 1 + 1 + 2 * (y.caps.length : Int)) w0 _ lo _ B2.out hlo RB.out (by omega) (by omega)).mono ?_; rintro e w3 ⟨rfl, hr, hb, hk⟩
    rw [← HV.out] at hr
    have S3 := Aside0.mk (Kd.H_back (Kd.H_kept HH.out hk (fun k _ hn h2 => hn h2.1)) (kFuncI_mkM _ _ _ (⟨kk, kk + 1, mkCapS (kk + 1 + 1) y.caps.length, mkInsS (kk + 1 + 1 + 2 * (y.caps.length : Int)) y.code.length, y.handlers⟩ : Func) (Kd.R_mono (Kd.R_kept Q2.out hk (fun k h1 h2 => ty_apart (E1 := 105 :: kCap.E) (E2 := 76 :: kIns.E) (by decide) h1.2.2.2 h2.2.2.2)) (fun k hk => hk.1)) (Kd.R_mono hr (fun k hk => hk.1)) (Kd.R_mono (Kd.R_kept Q4.out hk (fun k h1 h2 => ty_apart (E1 := 107 :: kHandler.E) (E2 := 76 :: kIns.E) (by decide) h1.2.2.2 h2.2.2.2)) (fun k hk => hk.1))) (fun _ h => h))
    rw [Int.toNat_natCast, List.set_set] at S3
    have B3 := Aside0.mk hb; have K3 := Aside0.mk (Kept.then_ K2.out hk (fun k h => .inl (HI.out k h.1).1))
    have hx3 : (xs.set j (⟨kk, kk + 1, mkCapS (kk + 1 + 1) y.caps.length, mkInsS (kk + 1 + 1 + 2 * (y.caps.length : Int)) y.code.length, y.handlers⟩ : Func)).length = l.length := by simpa using hn
    clear hr hb hk yb RB HH HI HV S2 B2 K2 Q2 Q4 hx2
    obtain ⟨oki, c1, hcl, hM, hcc, hfr, hoki, hH⟩ := Kd.S_elem S3.out zFunc (j : Int) (by omega) (by omega)
    rw [Int.toNat_natCast, show (xs.set j (⟨kk, kk + 1, mkCapS (kk + 1 + 1) y.caps.length, mkInsS (kk + 1 + 1 + 2 * (y.caps.length : Int)) y.code.length, y.handlers⟩ : Func)).getD j zFunc = (⟨kk, kk + 1, mkCapS (kk + 1 + 1) y.caps.length, mkInsS (kk + 1 + 1 + 2 * (y.caps.length : Int)) y.code.length, y.handlers⟩ : Func) from el_set_eq (by omega)] at hM
    obtain ⟨v2, v3, v4, rfl, r2, r3, r4⟩ := kFuncI_openM hM
    rw [Int.toNat_natCast] at hcc
    obtain ⟨B, d, hvb⟩ := Kd.R_slice r4; have yb := hcc 4 _ rfl; replace yb : w3.cell? ⟨go, j * 5 + 4, none⟩ = _ := yb
    rw [hvb] at yb
    have RB := Aside0.mk (Kd.R_bound r4)
    rw [hvb] at RB
    have Q2 := Aside0.mk (Kd.R_bound r2)
    have Q3 := Aside0.mk (Kd.R_bound r3)
    have HH := Aside0.mk hH; have HI := Aside0.mk hoki; have HV := Aside0.mk hvb
    clear hcl hM hcc hfr hoki hH r2 r3 r4 hvb
    go_wp2_with fail
    refine (markHandlerS _ y.handlers (kk + 1 + 1 + 2 * (y.caps.length : Int) + 3 * (y.code.length : Int)) w0 _ lo _ B3.out hlo RB.out (by omega) (by omega)).mono ?_; rintro e w4 ⟨rfl, hr, hb, hk⟩
    rw [← HV.out] at hr
    have S4 := Aside0.mk (Kd.H_back (Kd.H_kept HH.out hk (fun k _ hn h2 => hn h2.1)) (kFuncI_mkM _ _ _ (⟨kk, kk + 1, mkCapS (kk + 1 + 1) y.caps.length, mkInsS (kk + 1 + 1 + 2 * (y.caps.length : Int)) y.code.length, mkHandlerS (kk + 1 + 1 + 2 * (y.caps.length : Int) + 3 * (y.code.length : Int)) y.handlers.length⟩ : Func) (Kd.R_mono (Kd.R_kept Q2.out hk (fun k h1 h2 => ty_apart (E1 := 105 :: kCap.E) (E2 := 107 :: kHandler.E) (by decide) h1.2.2.2 h2.2.2.2)) (fun k hk => hk.1)) (Kd.R_mono (Kd.R_kept Q3.out hk (fun k h1 h2 => ty_apart (E1 := 76 :: kIns.E) (E2 := 107 :: kHandler.E) (by decide) h1.2.2.2 h2.2.2.2)) (fun k hk => hk.1)) (Kd.R_mono hr (fun k hk => hk.1))) (fun _ h => h))
    rw [Int.toNat_natCast, List.set_set] at S4
    have B4 := Aside0.mk hb; have K4 := Aside0.mk (Kept.then_ K3.out hk (fun k h => .inl (HI.out k h.1).1))
    have hx4 : (xs.set j (⟨kk, kk + 1, mkCapS (kk + 1 + 1) y.caps.length, mkInsS (kk + 1 + 1 + 2 * (y.caps.length : Int)) y.code.length, mkHandlerS (kk + 1 + 1 + 2 * (y.caps.length : Int) + 3 * (y.code.length : Int)) y.handlers.length⟩ : Func)).length = l.length := by simpa using hn
    clear hr hb hk yb RB HH HI HV S3 B3 K3 Q2 Q3 hx3
    go_wp2
    go_roundw
    case measure => simp [intOf]; omega
    case rel =>
      refine ⟨j + 1, kk + 1 + 1 + 2 * (y.caps.length : Int) + 3 * (y.code.length : Int) + 3 * (y.handlers.length : Int), _, by first | rfl | go_num, by go_num, ⟨?_⟩, by omega, hx4, ⟨fun i hi => ?_⟩, ⟨fun i hi => ?_⟩, S4, B4, K4⟩
      · have h1 := HKK.out; have h2 := HCN.out; unfold cntFunc at h2; omega
      · rcases Nat.lt_succ_iff_lt_or_eq.1 hi with h | h
        · rw [el_set_ne (by omega)]; exact HE.out i h
        · subst h
          rw [el_mkFuncS k hlt, ← HKK.out, ← HY.out]
          exact el_set_eq (by omega)
      · rw [el_set_ne (by omega)]; exact HE2.out i (by omega)
set_option maxHeartbeats 4000000 in
set_option maxRecDepth 100000 in
theorem markImage (x : Image) (cs : List Value) (k : Int) (w0 w : World) (lo : Nat) (ok : Nat → Prop) (hB : Below w0.heap.size w0 w) (hlo : w0.heap.size ≤ lo) (hok : ∀ b, ok b → b < w.heap.size) (hm : kImageA.M w lo ok x cs) (h0 : 0 ≤ k) (h1 : k + (cntFuncs x.funcs : Int) + 3 * (x.consts.length : Int) ≤ 4611686018427387904) (hl : x.funcs.length ≤ 1048576) :
    Calls Try.prog 20 #[.agg ⟨cs⟩, .int .i64 k] w fun e w' => e = .returned (.int .i64 (k + (cntFuncs x.funcs : Int) + 3 * (x.consts.length : Int))) ∧ kImageA.M w' lo ok ⟨mkFuncS k x.funcs, mkConstS (k + (cntFuncs x.funcs : Int)) x.consts.length⟩ cs ∧ Below w0.heap.size w0 w' ∧ Kept w w' ok := by
  obtain ⟨v0, v1, rfl, hs, hr⟩ := kImageA_openM hm
  obtain ⟨A0, c0, rfl⟩ := Kd.S_slice hs
  obtain ⟨A1, c1, rfl⟩ := Kd.R_slice hr
  clear hm
  have hu := Try.underlying37
  have HS := Aside0.mk (Kd.S_bound (Kd.S_below hs (below_alloc (Below.refl w.heap.size w) (.cells #[.slice A0 x.funcs.length c0, .slice A1 x.consts.length c1] 37))))
  have HR := Aside0.mk (Kd.R_bound (Kd.R_below hr (below_alloc (Below.refl w.heap.size w) (.cells #[.slice A0 x.funcs.length c0, .slice A1 x.consts.length c1] 37))))
  have HB := Aside0.mk (below_alloc hB (.cells #[.slice A0 x.funcs.length c0, .slice A1 x.consts.length c1] 37))
  have HK := Aside0.mk ((Kept.refl w ok).alloc (.cells #[.slice A0 x.funcs.length c0, .slice A1 x.consts.length c1] 37))
  clear hs hr hB
  go_enter Try.func20, Try.ntmps20
  go_wp2_with fail
  refine (markFuncS _ x.funcs k w0 _ lo _ HB.out hlo HS.out h0 (by omega) hl).mono ?_
  rintro e w1 ⟨rfl, hs, hb, hk⟩
  have HR1 := Aside0.mk (Kd.R_kept HR.out hk (fun k h1 h2 => ty_apart (E1 := 100 :: kConst.E) (E2 := 73 :: kFuncI.E) (by decide) h1.2.2.2 h2.2.2.2))
  have HS1 := Aside0.mk (Kd.S_bound (Kd.S_mono hs (fun k h => h.1))); have HB1 := Aside0.mk hb; have HK1 := Aside0.mk (HK.out.then_ hk (fun b hb => .inl hb.1))
  have hbx := (hk.2 w.heap.size (by simp) (fun h => by have := hok _ h.1; omega)).trans (blk_new w (.cells #[.slice A0 x.funcs.length c0, .slice A1 x.consts.length c1] 37))
  have zb := fun o => blk_cell hbx o
  clear hs hb hk HS HR HB HK hbx
  go_wp2_with fail
  clear zb
  refine (markConstS _ x.consts (k + (cntFuncs x.funcs : Int)) w0 _ lo _ HB1.out hlo (Kd.R_bound HR1.out) (by omega) (by omega)).mono ?_
  rintro e w2 ⟨rfl, hr, hb, hk⟩
  have HS2 := Aside0.mk (Kd.S_kept HS1.out hk (fun k h1 h2 => ty_apart (E1 := 73 :: kFuncI.E) (E2 := 100 :: kConst.E) (by decide) h1.2.2.2 h2.2.2.2))
  have HR2 := Aside0.mk hr; have HB2 := Aside0.mk hb; have HK2 := Aside0.mk (HK1.out.then_ hk (fun b hb => .inl hb.1.1))
  clear hr hb hk HS1 HR1 HB1 HK1
  go_wp2
  go_ret
  have e1 : (mkFuncS k x.funcs).length = x.funcs.length := mkFuncS_len _ _
  have e2 : (mkConstS (k + (cntFuncs x.funcs : Int)) x.consts.length).length = x.consts.length := mkConstS_len _ _
  exact ⟨rfl, kImageA_mkM _ _ _ ⟨mkFuncS k x.funcs, mkConstS (k + (cntFuncs x.funcs : Int)) x.consts.length⟩ (Kd.S_mono HS2.out (fun k h => h.1)) (Kd.R_mono HR2.out (fun k h => h.1.1)), HB2.out, HK2.out⟩
end Go.Proofs.Ytcbaokflimdjnaa
end
section
namespace Go.Proofs.Ytcbaokflimdjnaa
open Go.RowKit Go.Proofs.YtcbaokflimdjnaaW.PrintWords Go.Proofs.YtcbaokflimdjnaaW.PrintMore Go.Proofs.Ytcbaokflimdjnaa.Law Go.Proofs.Ytcbaokflimdjnaa.Num
set_option linter.unusedVariables false
set_option linter.unusedSimpArgs false
set_option autoImplicit false
/-- k, k + 1, .. : n of them. -/
def marks (k : Int) (n : Nat) : List Int := (List.range n).map (fun (i : Nat) => k + (i : Int))
theorem marks_len (k : Int) (n : Nat) : (marks k n).length = n := by simp [marks]
theorem el_marks (k : Int) {n j : Nat} (h : j < n) : el 0 (marks k n) j = k + j := by simp [el, marks, h]
set_option maxHeartbeats 4000000 in
set_option maxRecDepth 100000 in
theorem markIntS (v1 : Value) (l : List Int) (k : Int) (w0 w : World) (lo : Nat) (ok : Nat → Prop) (hB : Below w0.heap.size w0 w) (hlo : w0.heap.size ≤ lo) (hr : (Kd.int .i64).R 3 w lo ok v1 l) (h0 : 0 ≤ k) (h1 : k + l.length ≤ 4611686018427387904) :
    Calls Try.prog 43 #[v1, .int .i64 k] w fun e w' => e = .returned (.int .i64 (k + l.length)) ∧ (Kd.int .i64).R 3 w' lo ok v1 (marks k l.length) ∧ Below w0.heap.size w0 w' ∧ Kept w w' ok := by
  have HB := Aside0.mk hB
  have HO := Aside0.mk hr
  have HK := Aside0.mk (Kept.refl w ok)
  have HOK := Aside0.mk hr.1
  obtain ⟨A, c, rfl⟩ := Kd.R_slice hr
  clear hB hr
  go_enter Try.func43, Try.ntmps43
  go_wp2
  go_loopw [1, 5] (fun u v wr => ∃ (j : Nat) (xs : List Int), u = .int .i64 (k + j) ∧ v = .int .i64 j ∧ j ≤ l.length ∧ xs.length = l.length ∧ Aside0 (∀ i : Nat, i < j → el 0 xs i = el 0 (marks k l.length) i) ∧ Aside0 ((Kd.int .i64).R 3 wr lo ok (.slice A l.length c) xs) ∧ Aside0 (Below w0.heap.size w0 wr) ∧ Aside0 (Kept w wr ok)) (fun u v _ => l.length - (intOf v).toNat)
  case atStart => exact ⟨0, _, by simp, rfl, by omega, rfl, ⟨fun i hi => by omega⟩, HO, HB, HK⟩
  case round =>
    clear HO HB HK
    obtain ⟨j, xs, rfl, rfl, hj, hn, HE, HO, HB, HK⟩ := hrel
    by_cases hlt : j < l.length
    · obtain ⟨go, co, hv, gb, gl, cl, HG⟩ := Kd.R_form HO.out (by omega)
      rw [hn] at hv
      have hg : ok go := HOK.out go (by rw [hv]; simp [Value.ownBlock])
      injection hv with hA _ hc
      subst hA; subst hc
      obtain ⟨hx0, hf0⟩ := Kd.R_celln 0 HO.out (j : Int) (by omega) (by omega)
      rw [Int.toNat_natCast] at hx0 hf0
      have HP := Aside0.mk (Kd.R_putg HO.out (j : Int) (k + j)).1
      have GB := Aside0.mk gb
      have GK := Aside0.mk hg
      have hb2 : (j : Int) < (l.length : Int) := by omega
      clear gb gl HG hg
      go_wp2
      go_roundw
      case measure => simp [intOf]; omega
      case rel => exact ⟨j + 1, _, by go_num, by go_num, by omega, by simpa using hn, ⟨fun i hi => by rcases Nat.lt_succ_iff_lt_or_eq.1 hi with h | h; (rw [el_set_ne (by omega)]; exact HE.out i h); subst h; rw [el_marks k hlt]; exact el_set_eq (by omega)⟩, HP, ⟨below_set HB.out (Nat.le_trans hlo GB.out)⟩, ⟨Kept.setCell HK.out (.inl GK.out) _⟩⟩
    · have hb2 : ¬ (j : Int) < (l.length : Int) := by omega
      have hj2 : j = l.length := by omega
      have he : xs = marks k l.length := el_ext 0 (by rw [hn, marks_len]) (fun i hi => HE.out i (by omega))
      subst he
      subst hj2
      go_wp2
      go_ret
      exact ⟨rfl, HO.out, HB.out, HK.out⟩
set_option maxHeartbeats 4000000 in
set_option maxRecDepth 100000 in
theorem heldIntS (A : Option Addr) (c n : Nat) (l : List Int) (k : Int) (w : World) (hr : (Kd.int .i64).C w A l.length l) (hl : l = marks k n) (h0 : 0 ≤ k) (h1 : k + l.length ≤ 4611686018427387904) :
    Calls Try.prog 44 #[.slice A l.length c, .int .i64 k] w fun e w' => e = .returned (.int .i64 (k + l.length)) ∧ Below w.heap.size w w' := by
  have HR := Aside0.mk hr; clear hr
  have hn : l.length = n := by rw [hl, marks_len]
  have HL := Aside0.mk hl
  clear hl
  have HB := Aside0.mk (Below.refl w.heap.size w)
  go_enter Try.func44, Try.ntmps44
  go_wp2
  go_loopw [1, 5] (fun u v wr => ∃ (j : Nat), u = .int .i64 (k + j) ∧ v = .int .i64 j ∧ j ≤ l.length ∧ Aside0 (Below w.heap.size w wr)) (fun u v _ => l.length - (intOf v).toNat)
  case atStart => exact ⟨0, by simp, rfl, by omega, HB⟩
  case round =>
    clear HB
    obtain ⟨j, rfl, rfl, hj, HB⟩ := hrel
    by_cases hlt : j < l.length
    · obtain ⟨a, rfl, ha⟩ := int_at HR.out j hlt
      have hxa := (HB.out.cell (World.block_lt_of_cell? w _ ha)).trans ha
      have he : el 0 l j = k + j := by rw [HL.out]; exact el_marks k (by omega)
      rw [he] at hxa
      have hq : (k + (j : Int) != k + (j : Int)) = false := by simp
      have hb2 : (j : Int) < (l.length : Int) := by omega
      clear ha he
      go_wp2
      go_roundw
      case measure => simp [intOf]; omega
      case rel => exact ⟨j + 1, by go_num, by go_num, by omega, HB⟩
    · have hb2 : ¬ (j : Int) < (l.length : Int) := by omega
      have hj2 : j = l.length := by omega
      subst hj2
      go_wp2
      go_ret
      exact ⟨rfl, HB.out⟩
end Go.Proofs.Ytcbaokflimdjnaa
end
section
namespace Go.Proofs.Ytcbaokflimdjnaa.LawFnExactJumpsOf
open Go.RowKit Go.Proofs.YtcbaokflimdjnaaW.PrintWords Go.Proofs.YtcbaokflimdjnaaW.PrintLast Go.Proofs.Ytcbaokflimdjnaa.Steps Go.Proofs.YtcbaokflimdjnaaW.PrintMore Go.Proofs.Ytcbaokflimdjnaa.Law Go.Proofs.Ytcbaokflimdjnaa.Num Go.Proofs.Ytcbaokflimdjnaa Go.Proofs.Ytcbaokflimdjnaa.Flow
set_option linter.unusedVariables false
set_option linter.unusedSimpArgs false
set_option autoImplicit false
def law.T10 : Bool × List (List Nat × List Nat) := (true, [([], []), ([], []), ([1], [1]), ([0, 2, 2], [0, 2]), ([3], [3])])
def law.B10 : List Nat := [0, 0, 2, 7, 15]
theorem law.tab10 : rtab .any (opsOf Try.f9 10) = law.T10 := by kernel_rfl
theorem law.bits10 : waitsOk law.T10.2 law.B10 = true := by kernel_rfl
theorem mem_sub {w W : World} {H H2 : List Hold} (h : Mem w W H) (hs : H2.Sublist H) : Mem w W H2 :=
  ⟨h.below, fun x hx => h.says x (hs.subset hx), fun x hx => h.fits x (hs.subset hx), h.apart.sublist hs⟩
theorem jumpsI_len (x : Image) (fn : Int) : (jumpsI x fn).length ≤ 301 := by
  unfold jumpsI
  split
  · exact outTo_len _ _
  · exact Nat.zero_le _
theorem cnt_big {l : List Func} (h : ∀ y ∈ l, LenFunc y) : cntFuncs l ≤ l.length * 8388610 := by
  unfold cntFuncs
  induction l with
  | nil => simp
  | cons a l ih =>
    rw [List.map_cons, List.sum_cons, List.length_cons]
    have h1 := ih (fun y hy => h y (List.mem_cons_of_mem _ hy))
    have h2 := h a List.mem_cons_self
    unfold LenFunc at h2
    have h3 : cntFunc a ≤ 8388610 := by unfold cntFunc; omega
    omega
set_option maxHeartbeats 8000000 in
set_option maxRecDepth 100000 in
theorem w1 (x : Image) (fn : Int) (A0 A1 : Option Addr) (c0 c1 : Nat) (w : World) (hx : kImageL.K w x [.slice A0 x.funcs.length c0, .slice A1 x.consts.length c1]) (gx : GoodImage x) (e1 : sub 1048576 (sizeImage x) = -1) :
    Calls Try.prog 9 #[.agg #[.slice A0 x.funcs.length c0, .slice A1 x.consts.length c1], .int .i64 fn] w fun e w' => e = .returned (.bool true) ∧ Below w.heap.size w w' := by
  have hu := Try.underlying25; have hu2 := Try.underlying37; have hu3 := Try.underlying26
  have HX := Aside0.mk hx; clear hx
  have M0 := Aside0.mk ((Mem.start w).allocAt rfl #[.slice A0 x.funcs.length c0, .slice A1 x.consts.length c1] 25)
  have z0 := M0.out.box (.head _)
  go_enter Try.func9, Try.ntmps9
  go_wp2_with fail
  have C := szImage x _ 1048576 _ (M0.out.old HX.out) gx (by omega) (by omega)
  rw [e1] at C
  refine C.mono ?_; clear C
  rintro e w1 ⟨rfl, hb⟩
  have M1 := Aside0.mk (M0.out.step hb); clear M0 hb z0; have z0 := M1.out.box (.head _)
  go_wp2
  go_ret
  exact ⟨rfl, M1.out.below⟩
set_option maxHeartbeats 8000000 in
set_option maxRecDepth 100000 in
theorem w2 (x : Image) (fn : Int) (A0 A1 : Option Addr) (c0 c1 : Nat) (w : World) (hx : kImageL.K w x [.slice A0 x.funcs.length c0, .slice A1 x.consts.length c1]) (gx : GoodImage x) (s1 : Int) (e1 : sub 1048576 (sizeImage x) = s1) (n1 : 0 ≤ s1) (n2 : s1 ≤ 1048576) (hlx : LenImage x) (hn : ∀ y ∈ x.consts, 0 ≤ y.num ∧ y.num < 18446744073709551616) :
    Calls Try.prog 9 #[.agg #[.slice A0 x.funcs.length c0, .slice A1 x.consts.length c1], .int .i64 fn] w fun e w' => e = .returned (.bool true) ∧ Below w.heap.size w w' := by
  have hu := Try.underlying25; have hu2 := Try.underlying37; have hu3 := Try.underlying26
  have HX := Aside0.mk hx; clear hx
  have M0 := Aside0.mk ((Mem.start w).allocAt rfl #[.slice A0 x.funcs.length c0, .slice A1 x.consts.length c1] 25)
  have z0 := M0.out.box (.head _)
  go_enter Try.func9, Try.ntmps9
  go_wp2_with fail
  have C := szImage x _ 1048576 _ (M0.out.old HX.out) gx (by omega) (by omega)
  rw [e1] at C
  refine C.mono ?_; clear C
  rintro e w1 ⟨rfl, hb⟩
  have M1 := Aside0.mk (M0.out.step hb); clear M0 hb z0; have z0 := M1.out.box (.head _)
  have m1 : decide (s1 < 0) = false := by simp; omega
  obtain ⟨r, hr⟩ : ∃ r, r = jumpsI x fn := ⟨_, rfl⟩
  have hrl : r.length ≤ 301 := by rw [hr]; exact jumpsI_len x fn
  have HLX := Aside0.mk hlx; have HN := Aside0.mk hn; have HR := Aside0.mk hr
  clear hlx hn hr
  go_wp2_with fail
  clear z0
  refine (toImageA x _ _ (M1.out.old HX.out) HLX.out).mono ?_; rintro e w21 ⟨ds, rfl, hm, hb⟩; obtain ⟨qw, dw, pw, ew, rfl, _, _, _, _⟩ := kImageI_open (kImageA_K _ x _ ▸ kImageA.K_of_M hm)
  have M21 := Aside0.mk (M1.out.push hb hm); clear hm hb M1
  go_wp2_with fail
  obtain ⟨q', d', p', e', h, i0, j0, i1, j1⟩ := kImageI_open (kImageA_K _ x _ ▸ M21.out.read (.head _))
  cases h
  have C := cJumpsS x fn qw dw pw ew _ i0 j0 i1 j1 HN.out
  rw [← HR.out] at C
  refine C.mono ?_; clear C i0 j0 i1 j1; rintro e w22 ⟨v, rfl, ho, hb⟩; obtain ⟨Xw, yw, rfl⟩ := Kd.R_slice ho
  have M22 := Aside0.mk (M21.out.pushR hb ho); clear ho hb M21
  have M23 := Aside0.mk (mem_sub M22.out (List.Sublist.cons_cons _ (List.Sublist.cons _ (List.Sublist.cons_cons _ (List.Sublist.refl []))))); clear M22
  have z_bI := M23.out.box (.tail _ (.head _))
  go_wp2_with fail
  clear z_bI
  refine (toImageA x _ _ (M23.out.old HX.out) HLX.out).mono ?_; rintro e w24 ⟨ds, rfl, hm, hb⟩; obtain ⟨qx, dx, px, ex, rfl, _, _, _, _⟩ := kImageI_open (kImageA_K _ x _ ▸ kImageA.K_of_M hm)
  have M24 := Aside0.mk (M23.out.push hb hm); clear hm hb M23
  have N24 := Aside0.mk (M24.out.allocAt rfl #[.slice qx x.funcs.length dx, .slice px x.consts.length ex] 37); clear M24
  have z_bx := N24.out.box (.head _)
  go_wp2_with fail
  clear z_bx
  obtain ⟨q', d', p', e', h, i0, j0, i1, j1⟩ := kImageI_open (kImageA_K _ x _ ▸ N24.out.read (.tail _ (.head _)))
  cases h
  have C := cJumpsI x fn qx dx px ex _ i0 j0 i1 j1 HN.out
  rw [← HR.out] at C
  refine C.mono ?_; clear C i0 j0 i1 j1; rintro e w25 ⟨v, rfl, ho, hb⟩; obtain ⟨Xg, yg, rfl⟩ := Kd.R_slice ho
  have M25 := Aside0.mk (N24.out.pushR hb ho); clear ho hb N24
  go_wp2_with fail
  have C := eqIntS Xg Xw yg yw r r _ ((Kd.R_reads' (M25.out.row (.head _))).2.2) ((Kd.R_reads' (M25.out.row (.tail _ (.tail _ (.tail _ (.head _)))))).2.2)
  rw [decide_eq_true rfl] at C
  refine C.mono ?_; clear C; rintro e w26 ⟨rfl, ⟨⟨nd26, rfl⟩⟩⟩
  have M26 := Aside0.mk (M25.out.draw nd26); clear M25
  generalize w25.drewN nd26 = w26 at M26 ⊢
  have z_bx := M26.out.box (.tail _ (.head _))
  have z_bI := M26.out.box (.tail _ (.tail _ (.tail _ (.tail _ (.head _)))))
  go_upto_region 10 with fail
  clear z_bx z_bI
  have RX := Aside0.mk (M26.out.read (.tail _ (.tail _ (.head _))))
  obtain ⟨L, HL, ML⟩ := Mem.hide M26
  have Ebx := Aside0.mk (show (Hold.box w24.heap.size #[.slice qx x.funcs.length dx, .slice px x.consts.length ex] 37) ∈ L from HL.out ▸ (.tail _ (.head _))); have EbI := Aside0.mk (show (Hold.box w.heap.size #[.slice A0 x.funcs.length c0, .slice A1 x.consts.length c1] 25) ∈ L from HL.out ▸ (.tail _ (.tail _ (.tail _ (.tail _ (.head _))))))
  clear M26
  refine sz 5 (fun W => W.cell? ⟨w24.heap.size, 0, none⟩ = some (.slice qx x.funcs.length dx) ∧ W.cell? ⟨w24.heap.size, 1, none⟩ = some (.slice px x.consts.length ex) ∧ W.cell? ⟨w.heap.size, 0, none⟩ = some (.slice A0 x.funcs.length c0) ∧ W.cell? ⟨w.heap.size, 1, none⟩ = some (.slice A1 x.consts.length c1)) [] law.tab10 law.bits10 ⟨(((ML.out.drew)).box Ebx.out 0).trans rfl, (((ML.out.drew)).box Ebx.out 1).trans rfl, (((ML.out.drew)).box EbI.out 0).trans rfl, (((ML.out.drew)).box EbI.out 1).trans rfl⟩ (fun HT_ HW_ hHeld => ?_)
  have MD := Aside0.mk ML.out.drew
  refine tz 0 31 ?_; refine tz 1 32 ?_
  refine ez 2 (some 33) (fun K hK => ?_)
  refine gz Try.func15 #[.agg #[.slice A0 x.funcs.length c0, .slice A1 x.consts.length c1]] ?_
  have C := toImageA x _ _ (MD.out.old HX.out) HLX.out
  refine C.mono ?_; clear C; rintro e w27 ⟨ds, rfl, hm, hb⟩
  obtain ⟨q2, d2, q3, d3, rfl, _, _, _, _⟩ := kImageI_open (kImageA_K _ x _ ▸ kImageA.K_of_M hm)
  have N27 := Aside0.mk (MD.out.push hb hm); have RX2 := Aside0.mk (kImageA.K_below (below_step (below_drew1 (Below.refl _ _)) hb) RX.out); clear hm hb
  refine ⟨_, rfl, ?_⟩
  refine hK.out _ _ ⟨(((N27.out).drop).box Ebx.out 0).trans rfl, (((N27.out).drop).box Ebx.out 1).trans rfl, (((N27.out).drop).box EbI.out 0).trans rfl, (((N27.out).drop).box EbI.out 1).trans rfl⟩ (fun hHeld => ?_); clear hK K; refine kz (some 33) ?_
  refine ez 3 (some 34) (fun K hK => ?_)
  refine gz Try.func19 #[.agg #[.slice qx x.funcs.length dx, .slice px x.consts.length ex], .agg #[.slice q2 x.funcs.length d2, .slice q3 x.consts.length d3]] ?_
  have C := eqImage x x _ _ _ (kImageA_K _ x _ ▸ RX2.out) (kImageA_K _ x _ ▸ N27.out.read (.head _)); rw [decide_eq_true rfl] at C; refine C.mono ?_; clear C; rintro e w28 ⟨rfl, hb⟩; have M28 := Aside0.mk ((N27.out.step hb).drop); clear hb
  refine ⟨_, rfl, ?_⟩
  refine hK.out _ _ ⟨(((M28.out)).box Ebx.out 0).trans rfl, (((M28.out)).box Ebx.out 1).trans rfl, (((M28.out)).box EbI.out 0).trans rfl, (((M28.out)).box EbI.out 1).trans rfl⟩ (fun hHeld => ?_); clear hK K; refine kz (some 34) ?_
  refine pz 4 35 ?_
  refine dz ?_
  clear hHeld ML RX RX2 N27 MD HT_ HW_
  have hl := HL.out; subst hl; clear HL Ebx EbI
  obtain ⟨k1, hk1⟩ : ∃ k1 : Int, k1 = 1 + (cntFuncs x.funcs : Int) + 3 * (x.consts.length : Int) := ⟨_, rfl⟩
  have hkb : 0 ≤ k1 ∧ k1 ≤ 17592186044416 := by
    have h1 := cnt_big HLX.out.2.1; have h2 := HLX.out.1; have h3 := HLX.out.2.2
    have h4 : x.funcs.length * 8388610 ≤ 1048576 * 8388610 := Nat.mul_le_mul_right _ h2
    omega
  have HK1 := Aside0.mk hk1; clear hk1
  have z_bx := M28.out.box (.tail _ (.head _))
  go_wp2_with fail
  clear z_bx
  have hv := M28.out.val (.tail _ (.tail _ (.head _))); have hf := M28.out.fits _ (.tail _ (.tail _ (.head _)))
  have C := markImage x _ 1 w _ _ _ M28.out.below hf.1 (fun b hb => Nat.lt_of_lt_of_le hb.2 hf.2) hv (by omega) (by have := HK1.out; omega) HLX.out.1; clear hv hf
  rw [← HK1.out] at C
  refine C.mono ?_; clear C; rintro e w29 ⟨rfl, hv, hb, hk⟩
  have M29 := Aside0.mk (Mem.mark (A := [_, _]) M28.out hb hk hv); clear hv hb hk M28
  have gk : decide (k1 < 0) = false := by simp; omega
  go_wp2_with fail
  have C := eqIntS Xg Xw yg yw r r _ ((Kd.R_reads' (M29.out.row (.head _))).2.2) ((Kd.R_reads' (M29.out.row (.tail _ (.tail _ (.tail _ (.head _)))))).2.2)
  rw [decide_eq_true rfl] at C
  refine C.mono ?_; clear C; rintro e w30 ⟨rfl, ⟨⟨nd30, rfl⟩⟩⟩
  have M30 := Aside0.mk (M29.out.draw nd30); clear M29
  generalize w29.drewN nd30 = w30 at M30 ⊢
  clear gk
  go_wp2_with fail
  have hv := M30.out.row (.head _); have hf := M30.out.fits _ (.head _)
  refine (markIntS _ r 1 w _ _ _ M30.out.below hf.1 hv (by omega) (by omega)).mono ?_; clear hf
  rintro e w31 ⟨rfl, hv2, hb, hk⟩
  have M31 := Aside0.mk (Mem.mark (d := Kd.slice 3 (Kd.int .i64)) (A := []) M30.out hb hk (y := marks 1 r.length) ⟨_, rfl, hv2⟩); clear hv hv2 hb hk M30
  go_wp2_with fail
  have hv := M31.out.row (.head _)
  have hrr := (Kd.R_reads' hv).2.2
  have C := heldIntS Xg yg r.length (marks 1 r.length) 1 _ hrr rfl (by omega) (by rw [marks_len]; omega)
  simp only [marks_len] at C
  refine C.mono ?_; clear C hv hrr; rintro e w32 ⟨rfl, hb⟩
  have M32 := Aside0.mk (M31.out.step hb); clear hb M31
  have gq : decide (1 + (r.length : Int) < 0) = false := by simp; omega
  have gn : (1 + (r.length : Int) != 1 + (r.length : Int)) = false := by simp
  have z_bI := M32.out.box (.tail _ (.tail _ (.tail _ (.tail _ (.head _)))))
  go_wp2_with fail
  clear z_bI
  refine (toImageA x _ _ (M32.out.old HX.out) HLX.out).mono ?_; rintro e w33 ⟨ds, rfl, hm, hb⟩; obtain ⟨qh, dh, ph, eh, rfl, _, _, _, _⟩ := kImageI_open (kImageA_K _ x _ ▸ kImageA.K_of_M hm)
  have M33 := Aside0.mk (M32.out.push hb hm); clear hm hb M32
  go_wp2_with fail
  obtain ⟨q', d', p', e', h, i0, j0, i1, j1⟩ := kImageI_open (kImageA_K _ x _ ▸ M33.out.read (.head _))
  cases h
  have C := cJumpsI x fn qh dh ph eh _ i0 j0 i1 j1 HN.out
  rw [← HR.out] at C
  refine C.mono ?_; clear C i0 j0 i1 j1; rintro e w34 ⟨v, rfl, ho, hb⟩; obtain ⟨Xh, yh, rfl⟩ := Kd.R_slice ho
  have M34 := Aside0.mk (M33.out.pushR hb ho); clear ho hb M33
  go_wp2_with fail
  have C := eqIntS Xh Xw yh yw r r _ ((Kd.R_reads' (M34.out.row (.head _))).2.2) ((Kd.R_reads' (M34.out.row (.tail _ (.tail _ (.tail _ (.tail _ (.tail _ (.head _)))))))).2.2)
  rw [decide_eq_true rfl] at C
  refine C.mono ?_; clear C; rintro e w35 ⟨rfl, ⟨⟨nd35, rfl⟩⟩⟩
  have M35 := Aside0.mk (M34.out.draw nd35); clear M34
  generalize w34.drewN nd35 = w35 at M35 ⊢
  go_wp2_with fail
  have hv := M35.out.row (.tail _ (.tail _ (.head _)))
  have hrr := (Kd.R_reads' hv).2.2
  have C := heldIntS Xg yg r.length (marks 1 r.length) 1 _ hrr rfl (by omega) (by rw [marks_len]; omega)
  simp only [marks_len] at C
  refine C.mono ?_; clear C hv hrr; rintro e w36 ⟨rfl, hb⟩
  have M36 := Aside0.mk (M35.out.step hb); clear hb M35
  go_wp2
  go_ret
  exact ⟨rfl, M36.out.below⟩
theorem le_sum {l : List Func} {y : Func} (h : y ∈ l) : sizeFunc y ≤ (l.map sizeFunc).sum := by
  induction l with
  | nil => cases h
  | cons a l ih =>
    rw [List.map_cons, List.sum_cons]
    rcases List.mem_cons.1 h with rfl | h
    · omega
    · have := ih h
      omega
theorem len_ok {x : Image} (h : (sizeImage x : Int) ≤ 1048576) : LenImage x := by
  have e : sizeImage x = x.funcs.length + (x.funcs.map sizeFunc).sum + (x.consts.length + (x.consts.map sizeConst).sum) := rfl
  refine ⟨by omega, fun y hy => ?_, by omega⟩
  have h1 := le_sum hy
  have e2 : sizeFunc y = y.caps.length + y.code.length + y.handlers.length := rfl
  exact ⟨by omega, by omega, by omega⟩
theorem law {GF : Func → Prop} (A0_0 : Option Addr) (c0_0 : Nat) (l0_0 : List Func) (A0_1 : Option Addr) (c0_1 : Nat) (l0_1 : List Const) (z1 : Int) (w : World)
    (hr0_0 : kFuncL.C w A0_0 l0_0.length l0_0) (hc0_0 : l0_0.length ≤ c0_0) (hr0_1 : kConst.C w A0_1 l0_1.length l0_1) (hc0_1 : l0_1.length ≤ c0_1)
    (g0 : (l0_0.length ≤ maxLen ∧ ∀ x ∈ l0_0, GF x) ∧ (l0_1.length ≤ maxLen ∧ ∀ x ∈ l0_1, (Lit.int .i64 x.kind).wf = true ∧ (Lit.int .u64 x.num).wf = true ∧ x.text.size ≤ maxLen)) (g1 : (Lit.int .i64 z1).wf = true) :
    Calls Try.prog 9 #[.agg #[.slice A0_0 l0_0.length c0_0, .slice A0_1 l0_1.length c0_1], .int .i64 z1] w fun e w' => e = .returned (.bool true) ∧ Below w.heap.size w w' := by
  have hx := kImageL_mk w ⟨l0_0, l0_1⟩ hc0_0 hr0_0 hc0_1 hr0_1
  have gx : GoodImage ⟨l0_0, l0_1⟩ := ⟨fun _ _ => trivial, fun y hy => (g0.2.2 y hy).2.2⟩
  by_cases n1 : (1048576 : Int) < (sizeImage ⟨l0_0, l0_1⟩ : Int)
  · exact w1 ⟨l0_0, l0_1⟩ z1 _ _ _ _ w hx gx (by unfold sub; rw [if_pos n1])
  · have e1 : sub 1048576 (sizeImage ⟨l0_0, l0_1⟩) = 1048576 - (sizeImage ⟨l0_0, l0_1⟩ : Int) := by unfold sub; rw [if_neg n1]
    exact w2 ⟨l0_0, l0_1⟩ z1 _ _ _ _ w hx gx _ e1 (by omega) (by omega) (len_ok (by omega)) (fun y hy => by have h := (g0.2.2 y hy).2.1; exact wf_u64 h)
end Go.Proofs.Ytcbaokflimdjnaa.LawFnExactJumpsOf
end
section
namespace Go.Proofs.Ytcbaokflimdjnaa.Open
open Go.Proofs.YtcbaokflimdjnaaW.PrintWords Go.ChangeShapes Go.WideShapes
section
variable {H : Type} {enc : TypeId × Value → H} {P : Program} {w : World} {base : Nat} {spare : Nat → Bool} {held : Bool}
/-- What reads as a datum at type t reads by the kind d as a value that is G. -/
def Opens {α : Type} (enc : TypeId × Value → H) (P : Program) (w : World) (base : Nat) (spare : Nat → Bool) (held : Bool) (t : TypeId) (d : Kd α) (G : α → Prop) : Prop :=
  ∀ (fuel : Nat) (cs : List Value) (x : DataW H × List MemPlace), DataW.trod enc P w base spare held fuel t cs = some x → ∃ a, d.K w a cs ∧ G a
theorem opens_int {t : TypeId} {k : IntKind} (ht : P.underlying t = some (.int k)) : Opens enc P w base spare held t (Kd.int k) (fun n => (Lit.int k n).wf = true) := by
  intro fuel cs x h
  obtain ⟨n, rfl, _, hw⟩ := DataW.trod_int ht h
  exact ⟨n, rfl, hw⟩
theorem opens_bool {t : TypeId} (ht : P.underlying t = some .bool) : Opens enc P w base spare held t Kd.bool (fun _ => True) := by
  intro fuel cs x h
  obtain ⟨b, rfl, _⟩ := DataW.trod_bool ht h
  exact ⟨b, rfl, trivial⟩
theorem opens_string {t : TypeId} (ht : P.underlying t = some .string) : Opens enc P w base spare held t Kd.string (fun s => s.size ≤ maxLen) := by
  intro fuel cs x h
  obtain ⟨s, rfl, _, hw⟩ := DataW.trod_string ht h
  exact ⟨s, rfl, hw⟩
theorem list_choose {α : Type} {Q : Nat → α → Prop} : ∀ (n : Nat), (∀ i, i < n → ∃ a, Q i a) → ∃ l : List α, l.length = n ∧ ∀ i a, l[i]? = some a → Q i a
  | 0, _ => ⟨[], rfl, fun i a h => by simp at h⟩
  | n + 1, h => by
    obtain ⟨l, hl, hq⟩ := list_choose n (fun i hi => h i (by omega))
    obtain ⟨a, ha⟩ := h n (by omega)
    refine ⟨l ++ [a], by simp [hl], fun i b hb => ?_⟩
    rw [List.getElem?_append] at hb
    split at hb
    · exact hq i b hb
    · rename_i hi
      have hi0 : i - l.length = 0 := by
        rcases Nat.eq_zero_or_pos (i - l.length) with h0 | h0
        · exact h0
        · rw [List.getElem?_eq_none (by simp; omega)] at hb
          cases hb
      rw [hi0] at hb
      simp at hb
      subst hb
      have : i = n := by omega
      rw [this]
      exact ha
theorem opens_slice {α : Type} {t e e' : TypeId} {d : Kd α} {G : α → Prop} (ht : P.underlying t = some (.slice e)) (hc : P.cellsOf e = d.sz) (ho : Opens enc P w base spare held e d G) :
    Opens enc P w base spare held t (Kd.slice e' d) (fun xs => xs.length ≤ maxLen ∧ ∀ x ∈ xs, G x) := by
  intro fuel cs x h
  rcases DataW.trod_slice ht h with ⟨rfl, _⟩ | ⟨a, len, cap, elems, rest, n, _, rfl, _, _, hl, hm, hlen, hel, _⟩
  · exact ⟨[], ⟨none, 0, rfl, Nat.le_refl _, rfl, by simp, fun h => by simp at h⟩, by simp, fun x hx => by simp at hx⟩
  · have each : ∀ i, i < len → ∃ z : α, (∃ c, c.length = d.sz ∧ d.K w z c ∧ ∀ j u, c[j]? = some u → w.cell? (a.add (i * d.sz + j)) = some u) ∧ G z := by
      intro i hi
      have he := hel i hi
      rw [List.getElem?_eq_getElem (by omega), Option.bind_eq_some_iff] at he
      obtain ⟨c, hcs, hy⟩ := he
      obtain ⟨z, hk, hg⟩ := ho _ _ _ hy
      refine ⟨z, ⟨c, d.K_len hk, hk, fun j u hu => ?_⟩, hg⟩
      obtain ⟨_, hcl, hcell⟩ := World.cells?_some hcs
      have hj : j < c.length := (List.getElem?_eq_some_iff.1 hu).1
      have := hcell j (by omega)
      rw [hc, Addr.add_add] at this
      rw [this, hu]
    obtain ⟨l, hll, hq⟩ := list_choose len each
    refine ⟨l, ⟨some a, cap, by rw [hll], by omega, rfl, by unfold maxLen at hm; omega, fun _ => ⟨a, rfl, fun j p hp => ?_⟩⟩, by omega, fun z hz => ?_⟩
    · obtain ⟨⟨c, h1, h2, h3⟩, _⟩ := hq j p hp
      exact ⟨c, h1, h2, h3⟩
    · obtain ⟨i, hi⟩ := List.getElem?_of_mem hz
      exact (hq i z hi).2
/-- The fields from a place on, read in line by the kind d. -/
def Fields {α : Type} (enc : TypeId × Value → H) (P : Program) (w : World) (base : Nat) (spare : Nat → Bool) (held : Bool) (fs : List Field) (off : Nat) (d : Kd α) (G : α → Prop) : Prop :=
  ∀ (n : Nat) (cs : List Value), cs.length = off + d.sz → (∀ f ∈ fs, ∃ x, DataW.trod enc P w base spare held n f.type ((cs.drop f.offset).take (P.cellsOf f.type)) = some x) → ∃ a, d.K w a (cs.drop off) ∧ G a
theorem fields_one {α : Type} {f : Field} {off : Nat} {d : Kd α} {G : α → Prop} (hf : f.offset = off) (hc : P.cellsOf f.type = d.sz) (ho : Opens enc P w base spare held f.type d G) : Fields enc P w base spare held [f] off d G := by
  intro n cs hl h
  obtain ⟨x, hx⟩ := h f (by simp)
  obtain ⟨a, hk, hg⟩ := ho _ _ _ hx
  refine ⟨a, ?_, hg⟩
  rw [hf, hc, List.take_of_length_le (by simp [hl])] at hk
  exact hk
theorem fields_cons {α β : Type} {f : Field} {fs : List Field} {off : Nat} {d : Kd α} {d' : Kd β} {G : α → Prop} {G' : β → Prop} (hf : f.offset = off) (hc : P.cellsOf f.type = d.sz) (ho : Opens enc P w base spare held f.type d G)
    (hr : Fields enc P w base spare held fs (off + d.sz) d' G') : Fields enc P w base spare held (f :: fs) off (Kd.pair d d') (fun x => G x.1 ∧ G' x.2) := by
  intro n cs hl h
  obtain ⟨x, hx⟩ := h f (by simp)
  obtain ⟨a, hk, hg⟩ := ho _ _ _ hx
  rw [hf, hc] at hk
  have hl' : cs.length = off + d.sz + d'.sz := by rw [hl]; show off + (d.sz + d'.sz) = _; omega
  obtain ⟨b, hk', hg'⟩ := hr n cs hl' (fun g hg => h g (by simp [hg]))
  refine ⟨(a, b), ⟨_, _, ?_, hk, hk'⟩, hg, hg'⟩
  rw [← List.drop_drop, List.take_append_drop]
theorem opens_struct {α : Type} {t : TypeId} {fs : Array Field} {d : Kd α} {G : α → Prop} (ht : P.underlying t = some (.struct fs)) (hc : P.cellsOf t = d.sz) (hf : Fields enc P w base spare held fs.toList 0 d G) : Opens enc P w base spare held t d G := by
  intro fuel cs x h
  obtain ⟨xs, n, _, _, hl, hlen, hx⟩ := DataW.trod_struct ht h
  obtain ⟨a, hk, hg⟩ := hf n cs (by omega) (fun f hm => by
    obtain ⟨i, hi⟩ := List.getElem?_of_mem hm
    have hi' : i < fs.size := by have := (List.getElem?_eq_some_iff.1 hi).1; simpa using this
    have := hx i f (by rw [← hi, Array.getElem?_toList])
    rw [List.getElem?_eq_getElem (by omega)] at this
    exact ⟨_, this⟩)
  exact ⟨a, by simpa using hk, hg⟩
/-- A structure by its fields: where the kind's own value is the tuple. -/
theorem opens_iso {α β : Type} {t : TypeId} {d : Kd α} {G : α → Prop} (f : β → α) (g : α → β) (hfg : ∀ a, f (g a) = a) (h : Opens enc P w base spare held t d G) : Opens enc P w base spare held t (Kd.iso d f) (fun b => G (f b)) := by
  intro fuel cs x hx
  obtain ⟨a, hk, ha⟩ := h fuel cs x hx
  refine ⟨g a, ?_, by show G (f (g a)); rw [hfg]; exact ha⟩
  show d.K w (f (g a)) cs
  rw [hfg]
  exact hk
/-- An argument: its cells, by the kind. -/
theorem opens_arg {α : Type} {t : TypeId} {d : Kd α} {G : α → Prop} {v : Value} {dd : DataW H} {p : List MemPlace} (ho : Opens enc P w base spare held t d G) (h : DataW.Trod enc P w base spare held t v dd p) : ∃ a, d.K w a v.cells.toList ∧ G a := by
  obtain ⟨fuel, hf⟩ := h
  exact ho _ _ _ hf
end
end Go.Proofs.Ytcbaokflimdjnaa.Open
end
