/- The row of 'FnExactImageText': for every input the law returns true, and each argument reads behind the call as it read before. No condition. -/
import Derived.WalkKit
import Derived.KernelRfl
import Derived.Deep.LoopGhost
import Derived.Deep.QuietTactic
import Derived.BigQuiet
import Derived.RowKit3
import Derived.Deep.RegionWith
import Derived.Deep.RegionHeld3
import Derived.WalkLawsBesides
import Derived.Deep.DeepCutAuto
import Derived.ProofKit
import Derived.OpenShut
import Derived.ChangeOld
import Derived.ChangeShapes
import Derived.WideShapes
import Derived.ChangeArms
import Derived.DataReads
import Derived.DataElems
import Derived.Test.YtcbaokflimdjnaaRows
import Derived.ShutString
import Derived.Below
import Derived.SizedLaws
import Derived.Test.YtcbaokflimdjnaaBi17
import Derived.Test.YtcbaokflimdjnaaBi2
import Derived.Test.YtcbaokflimdjnaaBi18
import Derived.Test.YtcbaokflimdjnaaBi1
section
namespace Go.Proofs.Ytcbaokflimdjnaa
open Go.RowKit Go.Proofs.YtcbaokflimdjnaaW.PrintWords Go.Proofs.YtcbaokflimdjnaaW.PrintMore Go.Proofs.Ytcbaokflimdjnaa.Law Go.Proofs.Ytcbaokflimdjnaa.Num
set_option linter.unusedVariables false
set_option linter.unusedSimpArgs false
set_option autoImplicit false
theorem el_set_ne {α : Type} {z x : α} {l : List α} {i j : Nat} (h : i ≠ j) : el z (l.set j x) i = el z l i := by simp [el, List.getElem?_set, Ne.symm h]
theorem el_set_eq {α : Type} {z x : α} {l : List α} {j : Nat} (h : j < l.length) : el z (l.set j x) j = x := by simp [el, h]
set_option maxHeartbeats 4000000 in
set_option maxRecDepth 100000 in
theorem toCap (x : Cap) (cs : List Value) (w : World) (hk : kCap.K w x cs) :
    Calls Try.prog 162 #[.agg ⟨cs⟩] w fun e w' => e = .returned (.agg #[.bool x.reg, .int .i64 x.index]) ∧ Below w.heap.size w w' := by
  have e := kCap_open hk; subst e
  have hu := Try.underlying197; have hu2 := Try.underlying105
  have hz : (w.alloc (.cells ⟨[.bool x.reg, .int .i64 x.index]⟩ 197)).heap.size = w.heap.size + 1 := by simp
  go_enter Try.func162, Try.ntmps162
  go_wp2
  refine bodyPost_ret (results_cell_row rfl _ _ (w.heap.size + 1) 105 #[.bool x.reg, .int .i64 x.index] (0, 0) _ rfl (blk_alloc (hz ▸ blk_new _ _) _) hu2 rfl (by kernel_rfl)) rfl ?_
  exact ⟨rfl, below_alloc (below_alloc (below_alloc (Below.refl _ _) _) _) _⟩
set_option maxHeartbeats 4000000 in
set_option maxRecDepth 100000 in
theorem toCapS (A : Option Addr) (c : Nat) (l : List Cap) (w : World) (hr : kCap.C w A l.length l) (hlen : l.length ≤ 1048576) :
    Calls Try.prog 132 #[.slice A l.length c] w fun e w' => ∃ v, e = .returned v ∧ kCap.R 105 w' w.heap.size (fun _ => True) v l ∧ Below w.heap.size w w' := by
  have HR := Aside0.mk hr; clear hr
  have HB := Aside0.mk (Below.refl w.heap.size w)
  have hu := Try.underlying197; have hu2 := Try.underlying105
  go_enter Try.func132, Try.ntmps132
  go_wp2_with (refine Kd.R_make kCap _ 105 rfl (N := _) rfl _ _ _ rfl (l.length : Int) rfl rfl Try.underlying69 (.agg #[.bool false, .int .i64 0]) 16 (by kernel_rfl) rfl (by decide) (by omega) zCap (ok := fun _ => True) (okp := fun _ => True) (kCap_mkM _ _ _ zCap ) (fun _ hk => hk) trivial (by omega) (by omega) (Below.refl _ _) (Nat.le_refl _) ?_; intro v1 w1 ho hb hg_ hnew_; clear hg_ hnew_ HB; have HO := Aside0.mk ho; have HB := Aside0.mk hb; clear ho hb)
  go_loopw [4] (fun v wr => ∃ (j : Nat) (xs : List Cap), v = .int .i64 j ∧ j ≤ l.length ∧ xs.length = l.length ∧ Aside0 (∀ i : Nat, i < j → el zCap xs i = el zCap l i) ∧ Aside0 (kCap.R 105 wr w.heap.size (fun _ => True) v1 xs) ∧ Aside0 (Below w.heap.size w wr)) (fun v _ => l.length - (intOf v).toNat)
  case atStart => exact ⟨0, _, rfl, by omega, by simp, ⟨fun i hi => by omega⟩, HO, HB⟩
  case round =>
    clear HO HB
    obtain ⟨j, xs, rfl, hj, hn, HE, HO, HB⟩ := hrel
    by_cases hlt : j < l.length
    · obtain ⟨a, rfl, hk, x0, x1⟩ := Cap_at HR.out j hlt
      replace x0 := (HB.out.cell (World.block_lt_of_cell? w _ x0)).trans x0
      replace x1 := (HB.out.cell (World.block_lt_of_cell? w _ x1)).trans x1
      have HK := Aside0.mk hk; clear hk
      have hb2 : (j : Int) < (l.length : Int) := by omega
      go_wp2_with fail
      refine (toCap _ _ _ (kCap.K_below HB.out HK.out)).mono ?_
      rintro e w2 ⟨rfl, hb⟩
      have HO2 := Aside0.mk (Kd.R_below HO.out hb); have HB2 := Aside0.mk (below_step HB.out hb)
      obtain ⟨go, co, hv, gb, gl, cl0, HG0⟩ := Kd.R_form HO.out (by omega)
      rw [hn] at hv; subst hv; clear HG0
      obtain ⟨ce, hcl, hM, hcc, hfr⟩ := Kd.R_elem HO2.out zCap (j : Int) (by omega) (by omega)
      have hce := kCap_openM hM; subst hce
      rw [Int.toNat_natCast] at hcc hfr
      have y0 := hcc 0 _ rfl; replace y0 : w2.cell? ⟨go, j * 2, none⟩ = _ := y0; have f0 := hfr 0; replace f0 : w2.frozen? ⟨go, j * 2, none⟩ = false := f0
      have y1 := hcc 1 _ rfl; replace y1 : w2.cell? ⟨go, j * 2 + 1, none⟩ = _ := y1; have f1 := hfr 1; replace f1 : w2.frozen? ⟨go, j * 2 + 1, none⟩ = false := f1
      have HP := Aside0.mk (Kd.R_seg HO2.out (j : Int) (by omega) (by omega) (seg := [.bool (el zCap l j).reg, .int .i64 (el zCap l j).index]) (j := 0) hcl (by rw [Int.toNat_natCast]; exact hcc) (show 2 ≤ 2 from by decide) (x' := el zCap l j) (kCap_mkM _ _ _ _) (fun _ hk => hk)).1
      have GB := Aside0.mk gb
      clear gb gl hcl hcc hfr hM hb HO HB
      go_wp2
      go_roundw
      case measure => simp [intOf]; omega
      case rel => exact ⟨j + 1, _, by go_num, by omega, by simpa using hn, ⟨fun i hi => by rcases Nat.lt_succ_iff_lt_or_eq.1 hi with h | h; (rw [el_set_ne (by omega)]; exact HE.out i h); subst h; exact el_set_eq (by omega)⟩, HP, ⟨below_set (below_set (HB2.out) GB.out) GB.out⟩⟩
    · have hb2 : ¬ (j : Int) < (l.length : Int) := by omega
      have he : xs = l := el_ext zCap hn (fun i hi => HE.out i (by omega))
      subst he
      go_wp2
      go_ret
      exact ⟨_, rfl, HO.out, HB.out⟩
set_option maxHeartbeats 4000000 in
set_option maxRecDepth 100000 in
theorem toIns (x : Ins) (cs : List Value) (w : World) (hk : kIns.K w x cs) :
    Calls Try.prog 163 #[.agg ⟨cs⟩] w fun e w' => e = .returned (.agg #[.int .i64 x.op, .int .i64 x.a, .int .i64 x.b]) ∧ Below w.heap.size w w' := by
  have e := kIns_open hk; subst e
  have hu := Try.underlying199; have hu2 := Try.underlying76
  have hz : (w.alloc (.cells ⟨[.int .i64 x.op, .int .i64 x.a, .int .i64 x.b]⟩ 199)).heap.size = w.heap.size + 1 := by simp
  go_enter Try.func163, Try.ntmps163
  go_wp2
  refine bodyPost_ret (results_cell_row rfl _ _ (w.heap.size + 1) 76 #[.int .i64 x.op, .int .i64 x.a, .int .i64 x.b] (0, 0) _ rfl (blk_alloc (hz ▸ blk_new _ _) _) hu2 rfl (by kernel_rfl)) rfl ?_
  exact ⟨rfl, below_alloc (below_alloc (below_alloc (Below.refl _ _) _) _) _⟩
set_option maxHeartbeats 4000000 in
set_option maxRecDepth 100000 in
theorem toInsS (A : Option Addr) (c : Nat) (l : List Ins) (w : World) (hr : kIns.C w A l.length l) (hlen : l.length ≤ 1048576) :
    Calls Try.prog 133 #[.slice A l.length c] w fun e w' => ∃ v, e = .returned v ∧ kIns.R 76 w' w.heap.size (fun _ => True) v l ∧ Below w.heap.size w w' := by
  have HR := Aside0.mk hr; clear hr
  have HB := Aside0.mk (Below.refl w.heap.size w)
  have hu := Try.underlying199; have hu2 := Try.underlying76
  go_enter Try.func133, Try.ntmps133
  go_wp2_with (refine Kd.R_make kIns _ 76 rfl (N := _) rfl _ _ _ rfl (l.length : Int) rfl rfl Try.underlying70 (.agg #[.int .i64 0, .int .i64 0, .int .i64 0]) 24 (by kernel_rfl) rfl (by decide) (by omega) zIns (ok := fun _ => True) (okp := fun _ => True) (kIns_mkM _ _ _ zIns ) (fun _ hk => hk) trivial (by omega) (by omega) (Below.refl _ _) (Nat.le_refl _) ?_; intro v1 w1 ho hb hg_ hnew_; clear hg_ hnew_ HB; have HO := Aside0.mk ho; have HB := Aside0.mk hb; clear ho hb)
  go_loopw [4] (fun v wr => ∃ (j : Nat) (xs : List Ins), v = .int .i64 j ∧ j ≤ l.length ∧ xs.length = l.length ∧ Aside0 (∀ i : Nat, i < j → el zIns xs i = el zIns l i) ∧ Aside0 (kIns.R 76 wr w.heap.size (fun _ => True) v1 xs) ∧ Aside0 (Below w.heap.size w wr)) (fun v _ => l.length - (intOf v).toNat)
  case atStart => exact ⟨0, _, rfl, by omega, by simp, ⟨fun i hi => by omega⟩, HO, HB⟩
  case round =>
    clear HO HB
    obtain ⟨j, xs, rfl, hj, hn, HE, HO, HB⟩ := hrel
    by_cases hlt : j < l.length
    · obtain ⟨a, rfl, hk, x0, x1, x2⟩ := Ins_at HR.out j hlt
      replace x0 := (HB.out.cell (World.block_lt_of_cell? w _ x0)).trans x0
      replace x1 := (HB.out.cell (World.block_lt_of_cell? w _ x1)).trans x1
      replace x2 := (HB.out.cell (World.block_lt_of_cell? w _ x2)).trans x2
      have HK := Aside0.mk hk; clear hk
      have hb2 : (j : Int) < (l.length : Int) := by omega
      go_wp2_with fail
      refine (toIns _ _ _ (kIns.K_below HB.out HK.out)).mono ?_
      rintro e w2 ⟨rfl, hb⟩
      have HO2 := Aside0.mk (Kd.R_below HO.out hb); have HB2 := Aside0.mk (below_step HB.out hb)
      obtain ⟨go, co, hv, gb, gl, cl0, HG0⟩ := Kd.R_form HO.out (by omega)
      rw [hn] at hv; subst hv; clear HG0
      obtain ⟨ce, hcl, hM, hcc, hfr⟩ := Kd.R_elem HO2.out zIns (j : Int) (by omega) (by omega)
      have hce := kIns_openM hM; subst hce
      rw [Int.toNat_natCast] at hcc hfr
      have y0 := hcc 0 _ rfl; replace y0 : w2.cell? ⟨go, j * 3, none⟩ = _ := y0; have f0 := hfr 0; replace f0 : w2.frozen? ⟨go, j * 3, none⟩ = false := f0
      have y1 := hcc 1 _ rfl; replace y1 : w2.cell? ⟨go, j * 3 + 1, none⟩ = _ := y1; have f1 := hfr 1; replace f1 : w2.frozen? ⟨go, j * 3 + 1, none⟩ = false := f1
      have y2 := hcc 2 _ rfl; replace y2 : w2.cell? ⟨go, j * 3 + 2, none⟩ = _ := y2; have f2 := hfr 2; replace f2 : w2.frozen? ⟨go, j * 3 + 2, none⟩ = false := f2
      have HP := Aside0.mk (Kd.R_seg HO2.out (j : Int) (by omega) (by omega) (seg := [.int .i64 (el zIns l j).op, .int .i64 (el zIns l j).a, .int .i64 (el zIns l j).b]) (j := 0) hcl (by rw [Int.toNat_natCast]; exact hcc) (show 3 ≤ 3 from by decide) (x' := el zIns l j) (kIns_mkM _ _ _ _) (fun _ hk => hk)).1
      have GB := Aside0.mk gb
      clear gb gl hcl hcc hfr hM hb HO HB
      go_wp2
      go_roundw
      case measure => simp [intOf]; omega
      case rel => exact ⟨j + 1, _, by go_num, by omega, by simpa using hn, ⟨fun i hi => by rcases Nat.lt_succ_iff_lt_or_eq.1 hi with h | h; (rw [el_set_ne (by omega)]; exact HE.out i h); subst h; exact el_set_eq (by omega)⟩, HP, ⟨below_set (below_set (below_set (HB2.out) GB.out) GB.out) GB.out⟩⟩
    · have hb2 : ¬ (j : Int) < (l.length : Int) := by omega
      have he : xs = l := el_ext zIns hn (fun i hi => HE.out i (by omega))
      subst he
      go_wp2
      go_ret
      exact ⟨_, rfl, HO.out, HB.out⟩
set_option maxHeartbeats 4000000 in
set_option maxRecDepth 100000 in
theorem toHandler (x : Handler) (cs : List Value) (w : World) (hk : kHandler.K w x cs) :
    Calls Try.prog 164 #[.agg ⟨cs⟩] w fun e w' => e = .returned (.agg #[.int .i64 x.from_, .int .i64 x.to_, .int .i64 x.target]) ∧ Below w.heap.size w w' := by
  have e := kHandler_open hk; subst e
  have hu := Try.underlying201; have hu2 := Try.underlying107
  have hz : (w.alloc (.cells ⟨[.int .i64 x.from_, .int .i64 x.to_, .int .i64 x.target]⟩ 201)).heap.size = w.heap.size + 1 := by simp
  go_enter Try.func164, Try.ntmps164
  go_wp2
  refine bodyPost_ret (results_cell_row rfl _ _ (w.heap.size + 1) 107 #[.int .i64 x.from_, .int .i64 x.to_, .int .i64 x.target] (0, 0) _ rfl (blk_alloc (hz ▸ blk_new _ _) _) hu2 rfl (by kernel_rfl)) rfl ?_
  exact ⟨rfl, below_alloc (below_alloc (below_alloc (Below.refl _ _) _) _) _⟩
set_option maxHeartbeats 4000000 in
set_option maxRecDepth 100000 in
theorem toHandlerS (A : Option Addr) (c : Nat) (l : List Handler) (w : World) (hr : kHandler.C w A l.length l) (hlen : l.length ≤ 1048576) :
    Calls Try.prog 134 #[.slice A l.length c] w fun e w' => ∃ v, e = .returned v ∧ kHandler.R 107 w' w.heap.size (fun _ => True) v l ∧ Below w.heap.size w w' := by
  have HR := Aside0.mk hr; clear hr
  have HB := Aside0.mk (Below.refl w.heap.size w)
  have hu := Try.underlying201; have hu2 := Try.underlying107
  go_enter Try.func134, Try.ntmps134
  go_wp2_with (refine Kd.R_make kHandler _ 107 rfl (N := _) rfl _ _ _ rfl (l.length : Int) rfl rfl Try.underlying71 (.agg #[.int .i64 0, .int .i64 0, .int .i64 0]) 24 (by kernel_rfl) rfl (by decide) (by omega) zHandler (ok := fun _ => True) (okp := fun _ => True) (kHandler_mkM _ _ _ zHandler ) (fun _ hk => hk) trivial (by omega) (by omega) (Below.refl _ _) (Nat.le_refl _) ?_; intro v1 w1 ho hb hg_ hnew_; clear hg_ hnew_ HB; have HO := Aside0.mk ho; have HB := Aside0.mk hb; clear ho hb)
  go_loopw [4] (fun v wr => ∃ (j : Nat) (xs : List Handler), v = .int .i64 j ∧ j ≤ l.length ∧ xs.length = l.length ∧ Aside0 (∀ i : Nat, i < j → el zHandler xs i = el zHandler l i) ∧ Aside0 (kHandler.R 107 wr w.heap.size (fun _ => True) v1 xs) ∧ Aside0 (Below w.heap.size w wr)) (fun v _ => l.length - (intOf v).toNat)
  case atStart => exact ⟨0, _, rfl, by omega, by simp, ⟨fun i hi => by omega⟩, HO, HB⟩
  case round =>
    clear HO HB
    obtain ⟨j, xs, rfl, hj, hn, HE, HO, HB⟩ := hrel
    by_cases hlt : j < l.length
    · obtain ⟨a, rfl, hk, x0, x1, x2⟩ := Handler_at HR.out j hlt
      replace x0 := (HB.out.cell (World.block_lt_of_cell? w _ x0)).trans x0
      replace x1 := (HB.out.cell (World.block_lt_of_cell? w _ x1)).trans x1
      replace x2 := (HB.out.cell (World.block_lt_of_cell? w _ x2)).trans x2
      have HK := Aside0.mk hk; clear hk
      have hb2 : (j : Int) < (l.length : Int) := by omega
      go_wp2_with fail
      refine (toHandler _ _ _ (kHandler.K_below HB.out HK.out)).mono ?_
      rintro e w2 ⟨rfl, hb⟩
      have HO2 := Aside0.mk (Kd.R_below HO.out hb); have HB2 := Aside0.mk (below_step HB.out hb)
      obtain ⟨go, co, hv, gb, gl, cl0, HG0⟩ := Kd.R_form HO.out (by omega)
      rw [hn] at hv; subst hv; clear HG0
      obtain ⟨ce, hcl, hM, hcc, hfr⟩ := Kd.R_elem HO2.out zHandler (j : Int) (by omega) (by omega)
      have hce := kHandler_openM hM; subst hce
      rw [Int.toNat_natCast] at hcc hfr
      have y0 := hcc 0 _ rfl; replace y0 : w2.cell? ⟨go, j * 3, none⟩ = _ := y0; have f0 := hfr 0; replace f0 : w2.frozen? ⟨go, j * 3, none⟩ = false := f0
      have y1 := hcc 1 _ rfl; replace y1 : w2.cell? ⟨go, j * 3 + 1, none⟩ = _ := y1; have f1 := hfr 1; replace f1 : w2.frozen? ⟨go, j * 3 + 1, none⟩ = false := f1
      have y2 := hcc 2 _ rfl; replace y2 : w2.cell? ⟨go, j * 3 + 2, none⟩ = _ := y2; have f2 := hfr 2; replace f2 : w2.frozen? ⟨go, j * 3 + 2, none⟩ = false := f2
      have HP := Aside0.mk (Kd.R_seg HO2.out (j : Int) (by omega) (by omega) (seg := [.int .i64 (el zHandler l j).from_, .int .i64 (el zHandler l j).to_, .int .i64 (el zHandler l j).target]) (j := 0) hcl (by rw [Int.toNat_natCast]; exact hcc) (show 3 ≤ 3 from by decide) (x' := el zHandler l j) (kHandler_mkM _ _ _ _) (fun _ hk => hk)).1
      have GB := Aside0.mk gb
      clear gb gl hcl hcc hfr hM hb HO HB
      go_wp2
      go_roundw
      case measure => simp [intOf]; omega
      case rel => exact ⟨j + 1, _, by go_num, by omega, by simpa using hn, ⟨fun i hi => by rcases Nat.lt_succ_iff_lt_or_eq.1 hi with h | h; (rw [el_set_ne (by omega)]; exact HE.out i h); subst h; exact el_set_eq (by omega)⟩, HP, ⟨below_set (below_set (below_set (HB2.out) GB.out) GB.out) GB.out⟩⟩
    · have hb2 : ¬ (j : Int) < (l.length : Int) := by omega
      have he : xs = l := el_ext zHandler hn (fun i hi => HE.out i (by omega))
      subst he
      go_wp2
      go_ret
      exact ⟨_, rfl, HO.out, HB.out⟩
set_option maxHeartbeats 4000000 in
set_option maxRecDepth 100000 in
theorem toConst (x : Const) (cs : List Value) (w : World) (hk : kConst.K w x cs) :
    Calls Try.prog 98 #[.agg ⟨cs⟩] w fun e w' => e = .returned (.agg #[.int .i64 x.kind, .int .u64 x.num, .string x.text]) ∧ Below w.heap.size w w' := by
  have e := kConst_open hk; subst e
  have hu := Try.underlying131; have hu2 := Try.underlying100
  have hz : (w.alloc (.cells ⟨[.int .i64 x.kind, .int .u64 x.num, .string x.text]⟩ 131)).heap.size = w.heap.size + 1 := by simp
  go_enter Try.func98, Try.ntmps98
  go_wp2
  refine bodyPost_ret (results_cell_row rfl _ _ (w.heap.size + 1) 100 #[.int .i64 x.kind, .int .u64 x.num, .string x.text] (0, 0) _ rfl (blk_alloc (hz ▸ blk_new _ _) _) hu2 rfl (by kernel_rfl)) rfl ?_
  exact ⟨rfl, below_alloc (below_alloc (below_alloc (Below.refl _ _) _) _) _⟩
set_option maxHeartbeats 4000000 in
set_option maxRecDepth 100000 in
theorem toConstS (A : Option Addr) (c : Nat) (l : List Const) (w : World) (hr : kConst.C w A l.length l) (hlen : l.length ≤ 1048576) :
    Calls Try.prog 57 #[.slice A l.length c] w fun e w' => ∃ v, e = .returned v ∧ kConst.R 100 w' w.heap.size (fun _ => True) v l ∧ Below w.heap.size w w' := by
  have HR := Aside0.mk hr; clear hr
  have HB := Aside0.mk (Below.refl w.heap.size w)
  have hu := Try.underlying131; have hu2 := Try.underlying100
  go_enter Try.func57, Try.ntmps57
  go_wp2_with (refine Kd.R_make kConst _ 100 rfl (N := _) rfl _ _ _ rfl (l.length : Int) rfl rfl Try.underlying35 (.agg #[.int .i64 0, .int .u64 0, .string (⟨#[]⟩ : ByteArray)]) 32 (by kernel_rfl) rfl (by decide) (by omega) zConst (ok := fun _ => True) (okp := fun _ => True) (kConst_mkM _ _ _ zConst ) (fun _ hk => hk) trivial (by omega) (by omega) (Below.refl _ _) (Nat.le_refl _) ?_; intro v1 w1 ho hb hg_ hnew_; clear hg_ hnew_ HB; have HO := Aside0.mk ho; have HB := Aside0.mk hb; clear ho hb)
  go_loopw [4] (fun v wr => ∃ (j : Nat) (xs : List Const), v = .int .i64 j ∧ j ≤ l.length ∧ xs.length = l.length ∧ Aside0 (∀ i : Nat, i < j → el zConst xs i = el zConst l i) ∧ Aside0 (kConst.R 100 wr w.heap.size (fun _ => True) v1 xs) ∧ Aside0 (Below w.heap.size w wr)) (fun v _ => l.length - (intOf v).toNat)
  case atStart => exact ⟨0, _, rfl, by omega, by simp, ⟨fun i hi => by omega⟩, HO, HB⟩
  case round =>
    clear HO HB
    obtain ⟨j, xs, rfl, hj, hn, HE, HO, HB⟩ := hrel
    by_cases hlt : j < l.length
    · obtain ⟨a, rfl, hk, x0, x1, x2⟩ := Const_at HR.out j hlt
      replace x0 := (HB.out.cell (World.block_lt_of_cell? w _ x0)).trans x0
      replace x1 := (HB.out.cell (World.block_lt_of_cell? w _ x1)).trans x1
      replace x2 := (HB.out.cell (World.block_lt_of_cell? w _ x2)).trans x2
      have HK := Aside0.mk hk; clear hk
      have hb2 : (j : Int) < (l.length : Int) := by omega
      go_wp2_with fail
      refine (toConst _ _ _ (kConst.K_below HB.out HK.out)).mono ?_
      rintro e w2 ⟨rfl, hb⟩
      have HO2 := Aside0.mk (Kd.R_below HO.out hb); have HB2 := Aside0.mk (below_step HB.out hb)
      obtain ⟨go, co, hv, gb, gl, cl0, HG0⟩ := Kd.R_form HO.out (by omega)
      rw [hn] at hv; subst hv; clear HG0
      obtain ⟨ce, hcl, hM, hcc, hfr⟩ := Kd.R_elem HO2.out zConst (j : Int) (by omega) (by omega)
      have hce := kConst_openM hM; subst hce
      rw [Int.toNat_natCast] at hcc hfr
      have y0 := hcc 0 _ rfl; replace y0 : w2.cell? ⟨go, j * 3, none⟩ = _ := y0; have f0 := hfr 0; replace f0 : w2.frozen? ⟨go, j * 3, none⟩ = false := f0
      have y1 := hcc 1 _ rfl; replace y1 : w2.cell? ⟨go, j * 3 + 1, none⟩ = _ := y1; have f1 := hfr 1; replace f1 : w2.frozen? ⟨go, j * 3 + 1, none⟩ = false := f1
      have y2 := hcc 2 _ rfl; replace y2 : w2.cell? ⟨go, j * 3 + 2, none⟩ = _ := y2; have f2 := hfr 2; replace f2 : w2.frozen? ⟨go, j * 3 + 2, none⟩ = false := f2
      have HP := Aside0.mk (Kd.R_seg HO2.out (j : Int) (by omega) (by omega) (seg := [.int .i64 (el zConst l j).kind, .int .u64 (el zConst l j).num, .string (el zConst l j).text]) (j := 0) hcl (by rw [Int.toNat_natCast]; exact hcc) (show 3 ≤ 3 from by decide) (x' := el zConst l j) (kConst_mkM _ _ _ _) (fun _ hk => hk)).1
      have GB := Aside0.mk gb
      clear gb gl hcl hcc hfr hM hb HO HB
      go_wp2
      go_roundw
      case measure => simp [intOf]; omega
      case rel => exact ⟨j + 1, _, by go_num, by omega, by simpa using hn, ⟨fun i hi => by rcases Nat.lt_succ_iff_lt_or_eq.1 hi with h | h; (rw [el_set_ne (by omega)]; exact HE.out i h); subst h; exact el_set_eq (by omega)⟩, HP, ⟨below_set (below_set (below_set (HB2.out) GB.out) GB.out) GB.out⟩⟩
    · have hb2 : ¬ (j : Int) < (l.length : Int) := by omega
      have he : xs = l := el_ext zConst hn (fun i hi => HE.out i (by omega))
      subst he
      go_wp2
      go_ret
      exact ⟨_, rfl, HO.out, HB.out⟩
def LenFunc (x : Func) : Prop := x.caps.length ≤ 1048576 ∧ x.code.length ≤ 1048576 ∧ x.handlers.length ≤ 1048576
set_option maxHeartbeats 4000000 in
set_option maxRecDepth 100000 in
theorem toFunc (x : Func) (cs : List Value) (w : World) (hk : kFuncL.K w x cs) (hl : LenFunc x) :
    Calls Try.prog 97 #[.agg ⟨cs⟩] w fun e w' => ∃ ds, e = .returned (.agg ⟨ds⟩) ∧ kFuncI.M w' w.heap.size (fun _ => True) x ds ∧ Below w.heap.size w w' := by
  obtain ⟨pA2, pc2, pA3, pc3, pA4, pc4, rfl, pl2, pg2, pl3, pg3, pl4, pg4⟩ := kFuncL_open hk
  have pG2 := Aside0.mk pg2; clear pg2 pl2
  have pG3 := Aside0.mk pg3; clear pg3 pl3
  have pG4 := Aside0.mk pg4; clear pg4 pl4
  clear hk; unfold LenFunc at hl
  have HL := Aside0.mk hl; clear hl
  have hu := Try.underlying129; have hu2 := Try.underlying73
  have M0 := Aside0.mk ((((Mem.start w).allocAt rfl #[.int .i64 x.params, .int .i64 x.regs, .slice pA2 x.caps.length pc2, .slice pA3 x.code.length pc3, .slice pA4 x.handlers.length pc4] 129).allocAt (g := (w.heap.size + 1)) (by simp) #[.int .i64 0, .int .i64 0, .slice none 0 0, .slice none 0 0, .slice none 0 0] 73).allocAt (g := (w.heap.size + 1 + 1)) (by simp) #[.int .i64 x.params, .int .i64 x.regs, .slice none 0 0, .slice none 0 0, .slice none 0 0] 73)
  go_enter Try.func97, Try.ntmps97
  go_wp2_with fail
  refine (toCapS _ _ x.caps _ (Kd.C_below pG2.out M0.out.below) HL.out.1).mono ?_
  rintro e w2 ⟨v, rfl, ho, hb⟩; obtain ⟨vA2, vc2, rfl⟩ := Kd.R_slice ho
  have N2 := Aside0.mk (M0.out.pushR hb ho); clear ho hb M0
  have M3 := Aside0.mk (Mem.set (A := [_]) N2.out 2 (.slice vA2 x.caps.length vc2) (cs' := #[.int .i64 x.params, .int .i64 x.regs, .slice vA2 x.caps.length vc2, .slice none 0 0, .slice none 0 0]) rfl)
  have za := N2.out.box (.tail _ (.tail _ (.tail _ (.head _)))); have zo := N2.out.box (.tail _ (.head _)); have fo := N2.out.free (.tail _ (.head _)); have zr := N2.out.box (.tail _ (.tail _ (.head _))); have fr := N2.out.free (.tail _ (.tail _ (.head _)))
  go_wp2_with fail
  clear za zo fo zr fr N2
  refine (toInsS _ _ x.code _ (Kd.C_below pG3.out M3.out.below) HL.out.2.1).mono ?_
  rintro e w3 ⟨v, rfl, ho, hb⟩; obtain ⟨vA3, vc3, rfl⟩ := Kd.R_slice ho
  have N3 := Aside0.mk (M3.out.pushR hb ho); clear ho hb M3
  have M4 := Aside0.mk (Mem.set (A := [_, _]) N3.out 3 (.slice vA3 x.code.length vc3) (cs' := #[.int .i64 x.params, .int .i64 x.regs, .slice vA2 x.caps.length vc2, .slice vA3 x.code.length vc3, .slice none 0 0]) rfl)
  have za := N3.out.box (.tail _ (.tail _ (.tail _ (.tail _ (.head _))))); have zo := N3.out.box (.tail _ (.tail _ (.head _))); have fo := N3.out.free (.tail _ (.tail _ (.head _))); have zr := N3.out.box (.tail _ (.tail _ (.tail _ (.head _)))); have fr := N3.out.free (.tail _ (.tail _ (.tail _ (.head _))))
  go_wp2_with fail
  clear za zo fo zr fr N3
  refine (toHandlerS _ _ x.handlers _ (Kd.C_below pG4.out M4.out.below) HL.out.2.2).mono ?_
  rintro e w4 ⟨v, rfl, ho, hb⟩; obtain ⟨vA4, vc4, rfl⟩ := Kd.R_slice ho
  have N4 := Aside0.mk (M4.out.pushR hb ho); clear ho hb M4
  have M5 := Aside0.mk (Mem.set (A := [_, _, _]) N4.out 4 (.slice vA4 x.handlers.length vc4) (cs' := #[.int .i64 x.params, .int .i64 x.regs, .slice vA2 x.caps.length vc2, .slice vA3 x.code.length vc3, .slice vA4 x.handlers.length vc4]) rfl)
  have za := N4.out.box (.tail _ (.tail _ (.tail _ (.tail _ (.tail _ (.head _)))))); have zo := N4.out.box (.tail _ (.tail _ (.tail _ (.head _)))); have fo := N4.out.free (.tail _ (.tail _ (.tail _ (.head _)))); have zr := N4.out.box (.tail _ (.tail _ (.tail _ (.tail _ (.head _))))); have fr := N4.out.free (.tail _ (.tail _ (.tail _ (.tail _ (.head _)))))
  go_wp2
  have Z0 := Aside0.mk (Mem.set (A := [_, _, _, _]) M5.out 0 (.int .i64 x.params) (cs' := #[.int .i64 x.params, .int .i64 0, .slice none 0 0, .slice none 0 0, .slice none 0 0]) rfl); clear M5
  have Z1 := Aside0.mk (Mem.set (A := [_, _, _, _]) Z0.out 1 (.int .i64 x.regs) (cs' := #[.int .i64 x.params, .int .i64 x.regs, .slice none 0 0, .slice none 0 0, .slice none 0 0]) rfl); clear Z0
  have Z2 := Aside0.mk (Mem.set (A := [_, _, _, _]) Z1.out 2 (.slice vA2 x.caps.length vc2) (cs' := #[.int .i64 x.params, .int .i64 x.regs, .slice vA2 x.caps.length vc2, .slice none 0 0, .slice none 0 0]) rfl); clear Z1
  have Z3 := Aside0.mk (Mem.set (A := [_, _, _, _]) Z2.out 3 (.slice vA3 x.code.length vc3) (cs' := #[.int .i64 x.params, .int .i64 x.regs, .slice vA2 x.caps.length vc2, .slice vA3 x.code.length vc3, .slice none 0 0]) rfl); clear Z2
  have Z4 := Aside0.mk (Mem.set (A := [_, _, _, _]) Z3.out 4 (.slice vA4 x.handlers.length vc4) (cs' := #[.int .i64 x.params, .int .i64 x.regs, .slice vA2 x.caps.length vc2, .slice vA3 x.code.length vc3, .slice vA4 x.handlers.length vc4]) rfl); clear Z3
  refine bodyPost_ret (results_cell_row rfl _ _ (w.heap.size + 1) 73 #[.int .i64 x.params, .int .i64 x.regs, .slice vA2 x.caps.length vc2, .slice vA3 x.code.length vc3, .slice vA4 x.handlers.length vc4] (0, 0) _ rfl (Z4.out.blk (.tail _ (.tail _ (.tail _ (.tail _ (.head _)))))) hu2 rfl (by kernel_rfl)) rfl ?_
  exact ⟨_, rfl, kFuncI_mkM _ _ _ x (Z4.out.rowT (.tail _ (.tail _ (.head _)))) (Z4.out.rowT (.tail _ (.head _))) (Z4.out.rowT (.head _)), Z4.out.below⟩
set_option maxHeartbeats 4000000 in
set_option maxRecDepth 100000 in
theorem toFuncS (A : Option Addr) (c : Nat) (l : List Func) (w : World) (hr : kFuncL.C w A l.length l) (hlen : l.length ≤ 1048576) (hl : ∀ y ∈ l, LenFunc y) :
    Calls Try.prog 56 #[.slice A l.length c] w fun e w' => ∃ v, e = .returned v ∧ kFuncI.R 73 w' w.heap.size (fun _ => True) v l ∧ Below w.heap.size w w' := by
  have HR := Aside0.mk hr; clear hr
  have HL := Aside0.mk hl; clear hl
  have HB := Aside0.mk (Below.refl w.heap.size w)
  have hu := Try.underlying129; have hu2 := Try.underlying73
  go_enter Try.func56, Try.ntmps56
  go_wp2_with (refine Kd.R_make kFuncI _ 73 rfl (N := _) rfl _ _ _ rfl (l.length : Int) rfl rfl Try.underlying34 (.agg #[.int .i64 0, .int .i64 0, .slice none 0 0, .slice none 0 0, .slice none 0 0]) 88 (by kernel_rfl) rfl (by decide) (by omega) zFunc (ok := fun _ => True) (okp := fun _ => True) (kFuncI_mkM _ _ _ zFunc (Kd.R_nil _ _ _ _ _) (Kd.R_nil _ _ _ _ _) (Kd.R_nil _ _ _ _ _)) (fun _ hk => hk) trivial (by omega) (by omega) (Below.refl _ _) (Nat.le_refl _) ?_; intro v1 w1 ho hb hg_ hnew_; clear hg_ hnew_ HB; have HO := Aside0.mk ho; have HB := Aside0.mk hb; clear ho hb)
  go_loopw [4] (fun v wr => ∃ (j : Nat) (xs : List Func), v = .int .i64 j ∧ j ≤ l.length ∧ xs.length = l.length ∧ Aside0 (∀ i : Nat, i < j → el zFunc xs i = el zFunc l i) ∧ Aside0 (kFuncI.R 73 wr w.heap.size (fun _ => True) v1 xs) ∧ Aside0 (Below w.heap.size w wr)) (fun v _ => l.length - (intOf v).toNat)
  case atStart => exact ⟨0, _, rfl, by omega, by simp, ⟨fun i hi => by omega⟩, HO, HB⟩
  case round =>
    clear HO HB
    obtain ⟨j, xs, rfl, hj, hn, HE, HO, HB⟩ := hrel
    by_cases hlt : j < l.length
    · obtain ⟨a, qA2, qc2, qA3, qc3, qA4, qc4, rfl, hk, x0, x1, x2, x3, x4⟩ := FuncL_at HR.out j hlt
      replace x0 := (HB.out.cell (World.block_lt_of_cell? w _ x0)).trans x0
      replace x1 := (HB.out.cell (World.block_lt_of_cell? w _ x1)).trans x1
      replace x2 := (HB.out.cell (World.block_lt_of_cell? w _ x2)).trans x2
      replace x3 := (HB.out.cell (World.block_lt_of_cell? w _ x3)).trans x3
      replace x4 := (HB.out.cell (World.block_lt_of_cell? w _ x4)).trans x4
      have HK := Aside0.mk hk; clear hk
      have hb2 : (j : Int) < (l.length : Int) := by omega
      go_wp2_with fail
      refine (toFunc _ _ _ (kFuncL.K_below HB.out HK.out) (HL.out _ (el_mem zFunc hlt))).mono ?_
      rintro e w2 ⟨ds, rfl, hm, hb⟩
      have HO2 := Aside0.mk (Kd.R_below HO.out hb); have HB2 := Aside0.mk (below_step HB.out hb)
      obtain ⟨go, co, hv, gb, gl, cl0, HG0⟩ := Kd.R_form HO.out (by omega)
      rw [hn] at hv; subst hv; clear HG0
      obtain ⟨ce, hcl, hM, hcc, hfr⟩ := Kd.R_elem HO2.out zFunc (j : Int) (by omega) (by omega)
      obtain ⟨u2, u3, u4, rfl, _, _, _⟩ := kFuncI_openM hM
      obtain ⟨t2, t3, t4, rfl, r2, r3, r4⟩ := kFuncI_openM hm
      obtain ⟨tA2, tc2, rfl⟩ := Kd.R_slice r2
      obtain ⟨tA3, tc3, rfl⟩ := Kd.R_slice r3
      obtain ⟨tA4, tc4, rfl⟩ := Kd.R_slice r4
      clear r2 r3 r4
      rw [Int.toNat_natCast] at hcc hfr
      have y0 := hcc 0 _ rfl; replace y0 : w2.cell? ⟨go, j * 5, none⟩ = _ := y0; have f0 := hfr 0; replace f0 : w2.frozen? ⟨go, j * 5, none⟩ = false := f0
      have y1 := hcc 1 _ rfl; replace y1 : w2.cell? ⟨go, j * 5 + 1, none⟩ = _ := y1; have f1 := hfr 1; replace f1 : w2.frozen? ⟨go, j * 5 + 1, none⟩ = false := f1
      have y2 := hcc 2 _ rfl; replace y2 : w2.cell? ⟨go, j * 5 + 2, none⟩ = _ := y2; have f2 := hfr 2; replace f2 : w2.frozen? ⟨go, j * 5 + 2, none⟩ = false := f2
      have y3 := hcc 3 _ rfl; replace y3 : w2.cell? ⟨go, j * 5 + 3, none⟩ = _ := y3; have f3 := hfr 3; replace f3 : w2.frozen? ⟨go, j * 5 + 3, none⟩ = false := f3
      have y4 := hcc 4 _ rfl; replace y4 : w2.cell? ⟨go, j * 5 + 4, none⟩ = _ := y4; have f4 := hfr 4; replace f4 : w2.frozen? ⟨go, j * 5 + 4, none⟩ = false := f4
      have kk := kFuncI.M_bound hm
      have HP := Aside0.mk (Kd.R_seg HO2.out (j : Int) (by omega) (by omega) (seg := [.int .i64 (el zFunc l j).params, .int .i64 (el zFunc l j).regs, .slice tA2 (el zFunc l j).caps.length tc2, .slice tA3 (el zFunc l j).code.length tc3, .slice tA4 (el zFunc l j).handlers.length tc4]) (j := 0) hcl (by rw [Int.toNat_natCast]; exact hcc) (show 5 ≤ 5 from by decide) (x' := el zFunc l j) (kFuncI.M_lower HB.out.size kk) (fun k hk => ⟨trivial, fun h => by have := hk.2.1; omega⟩)).1
      clear kk hm
      have GB := Aside0.mk gb
      clear gb gl hcl hcc hfr hM hb HO HB
      go_wp2
      go_roundw
      case measure => simp [intOf]; omega
      case rel => exact ⟨j + 1, _, by go_num, by omega, by simpa using hn, ⟨fun i hi => by rcases Nat.lt_succ_iff_lt_or_eq.1 hi with h | h; (rw [el_set_ne (by omega)]; exact HE.out i h); subst h; exact el_set_eq (by omega)⟩, HP, ⟨below_set (below_set (below_set (below_set (below_set (HB2.out) GB.out) GB.out) GB.out) GB.out) GB.out⟩⟩
    · have hb2 : ¬ (j : Int) < (l.length : Int) := by omega
      have he : xs = l := el_ext zFunc hn (fun i hi => HE.out i (by omega))
      subst he
      go_wp2
      go_ret
      exact ⟨_, rfl, HO.out, HB.out⟩
def LenImage (x : Image) : Prop := x.funcs.length ≤ 1048576 ∧ (∀ y ∈ x.funcs, LenFunc y) ∧ x.consts.length ≤ 1048576
set_option maxHeartbeats 4000000 in
set_option maxRecDepth 100000 in
theorem toImage (x : Image) (cs : List Value) (w : World) (hk : kImageL.K w x cs) (hl : LenImage x) :
    Calls Try.prog 15 #[.agg ⟨cs⟩] w fun e w' => ∃ ds, e = .returned (.agg ⟨ds⟩) ∧ kImageI.M w' w.heap.size (fun _ => True) x ds ∧ Below w.heap.size w w' := by
  obtain ⟨pA0, pc0, pA1, pc1, rfl, pl0, pg0, pl1, pg1⟩ := kImageL_open hk
  have pG0 := Aside0.mk pg0; clear pg0 pl0
  have pG1 := Aside0.mk pg1; clear pg1 pl1
  clear hk; unfold LenImage at hl
  have HL := Aside0.mk hl; clear hl
  have hu := Try.underlying25; have hu2 := Try.underlying37
  have M0 := Aside0.mk ((((Mem.start w).allocAt rfl #[.slice pA0 x.funcs.length pc0, .slice pA1 x.consts.length pc1] 25).allocAt (g := (w.heap.size + 1)) (by simp) #[.slice none 0 0, .slice none 0 0] 37).allocAt (g := (w.heap.size + 1 + 1)) (by simp) #[.slice none 0 0, .slice none 0 0] 37)
  go_enter Try.func15, Try.ntmps15
  go_wp2_with fail
  refine (toFuncS _ _ x.funcs _ (Kd.C_below pG0.out M0.out.below) HL.out.1 HL.out.2.1).mono ?_
  rintro e w0 ⟨v, rfl, ho, hb⟩; obtain ⟨vA0, vc0, rfl⟩ := Kd.R_slice ho
  have N0 := Aside0.mk (M0.out.pushR hb ho); clear ho hb M0
  have M1 := Aside0.mk (Mem.set (A := [_]) N0.out 0 (.slice vA0 x.funcs.length vc0) (cs' := #[.slice vA0 x.funcs.length vc0, .slice none 0 0]) rfl)
  have za := N0.out.box (.tail _ (.tail _ (.tail _ (.head _)))); have zo := N0.out.box (.tail _ (.head _)); have fo := N0.out.free (.tail _ (.head _)); have zr := N0.out.box (.tail _ (.tail _ (.head _))); have fr := N0.out.free (.tail _ (.tail _ (.head _)))
  go_wp2_with fail
  clear za zo fo zr fr N0
  refine (toConstS _ _ x.consts _ (Kd.C_below pG1.out M1.out.below) HL.out.2.2).mono ?_
  rintro e w1 ⟨v, rfl, ho, hb⟩; obtain ⟨vA1, vc1, rfl⟩ := Kd.R_slice ho
  have N1 := Aside0.mk (M1.out.pushR hb ho); clear ho hb M1
  have M2 := Aside0.mk (Mem.set (A := [_, _]) N1.out 1 (.slice vA1 x.consts.length vc1) (cs' := #[.slice vA0 x.funcs.length vc0, .slice vA1 x.consts.length vc1]) rfl)
  have za := N1.out.box (.tail _ (.tail _ (.tail _ (.tail _ (.head _))))); have zo := N1.out.box (.tail _ (.tail _ (.head _))); have fo := N1.out.free (.tail _ (.tail _ (.head _))); have zr := N1.out.box (.tail _ (.tail _ (.tail _ (.head _)))); have fr := N1.out.free (.tail _ (.tail _ (.tail _ (.head _))))
  go_wp2
  have Z0 := Aside0.mk (Mem.set (A := [_, _, _]) M2.out 0 (.slice vA0 x.funcs.length vc0) (cs' := #[.slice vA0 x.funcs.length vc0, .slice none 0 0]) rfl); clear M2
  have Z1 := Aside0.mk (Mem.set (A := [_, _, _]) Z0.out 1 (.slice vA1 x.consts.length vc1) (cs' := #[.slice vA0 x.funcs.length vc0, .slice vA1 x.consts.length vc1]) rfl); clear Z0
  refine bodyPost_ret (results_cell_row rfl _ _ (w.heap.size + 1) 37 #[.slice vA0 x.funcs.length vc0, .slice vA1 x.consts.length vc1] (0, 0) _ rfl (Z1.out.blk (.tail _ (.tail _ (.tail _ (.head _))))) hu2 rfl (by kernel_rfl)) rfl ?_
  exact ⟨_, rfl, kImageI_mkM _ _ _ x (Z1.out.rowT (.tail _ (.head _))) (Z1.out.rowT (.head _)), Z1.out.below⟩
end Go.Proofs.Ytcbaokflimdjnaa
end
section
namespace Go.Proofs.Ytcbaokflimdjnaa.LawFnExactImageText
open Go.RowKit Go.Proofs.YtcbaokflimdjnaaW.PrintWords Go.Proofs.YtcbaokflimdjnaaW.PrintMore Go.Proofs.Ytcbaokflimdjnaa.Law Go.Proofs.Ytcbaokflimdjnaa.Num Go.Proofs.Ytcbaokflimdjnaa
set_option linter.unusedVariables false
set_option linter.unusedSimpArgs false
set_option autoImplicit false
set_option maxHeartbeats 8000000 in
set_option maxRecDepth 100000 in
theorem w1 (x : Image) (A0 A1 : Option Addr) (c0 c1 : Nat) (w : World) (hx : kImageL.K w x [.slice A0 x.funcs.length c0, .slice A1 x.consts.length c1]) (gx : GoodImage x) (e1 : sub 1048576 (sizeImage x) = -1) :
    Calls Try.prog 10 #[.agg #[.slice A0 x.funcs.length c0, .slice A1 x.consts.length c1]] w fun e w' => e = .returned (.bool true) ∧ Below w.heap.size w w' := by
  have hu := Try.underlying25; have hu2 := Try.underlying37
  have HX := Aside0.mk hx; clear hx
  have M0 := Aside0.mk ((Mem.start w).allocAt rfl #[.slice A0 x.funcs.length c0, .slice A1 x.consts.length c1] 25)
  go_enter Try.func10, Try.ntmps10
  go_wp2_with fail
  have C := szImage x _ 1048576 _ (M0.out.old HX.out) gx (by omega) (by omega)
  rw [e1] at C
  refine C.mono ?_; clear C
  rintro e w1 ⟨rfl, hb⟩
  have M1 := Aside0.mk (M0.out.step hb); clear M0 hb; have z0 := M1.out.box (.head _)
  go_wp2
  go_ret
  exact ⟨rfl, M1.out.below⟩
set_option maxHeartbeats 8000000 in
set_option maxRecDepth 100000 in
theorem w2 (x : Image) (A0 A1 : Option Addr) (c0 c1 : Nat) (w : World) (hx : kImageL.K w x [.slice A0 x.funcs.length c0, .slice A1 x.consts.length c1]) (gx : GoodImage x) (s : ByteArray) (u : Bool) (cS : ∀ (A0 : Option Addr) (c0 : Nat) (A1 : Option Addr) (c1 : Nat) (w : World), x.funcs.length ≤ c0 → kFuncI.C w A0 x.funcs.length x.funcs → x.consts.length ≤ c1 → kConst.C w A1 x.consts.length x.consts → (∀ y ∈ x.consts, 0 ≤ y.num ∧ y.num < 18446744073709551616) → Calls Try.prog 45 #[.agg #[.slice A0 x.funcs.length c0, .slice A1 x.consts.length c1]] w fun e w' => e = .returned (.tuple #[.string s, .bool u]) ∧ Below w.heap.size w w') (cI : ∀ (A0 : Option Addr) (c0 : Nat) (A1 : Option Addr) (c1 : Nat) (w : World), x.funcs.length ≤ c0 → kFuncI.C w A0 x.funcs.length x.funcs → x.consts.length ≤ c1 → kConst.C w A1 x.consts.length x.consts → (∀ y ∈ x.consts, 0 ≤ y.num ∧ y.num < 18446744073709551616) → Calls Try.prog 46 #[.agg #[.slice A0 x.funcs.length c0, .slice A1 x.consts.length c1]] w fun e w' => e = .returned (.tuple #[.string s, .bool u]) ∧ Below w.heap.size w w') (s1 : Int) (e1 : sub 1048576 (sizeImage x) = s1) (n1 : 0 ≤ s1) (hlx : LenImage x) (hn : ∀ y ∈ x.consts, 0 ≤ y.num ∧ y.num < 18446744073709551616) :
    Calls Try.prog 10 #[.agg #[.slice A0 x.funcs.length c0, .slice A1 x.consts.length c1]] w fun e w' => e = .returned (.bool true) ∧ Below w.heap.size w w' := by
  have hu := Try.underlying25; have hu2 := Try.underlying37
  have HX := Aside0.mk hx; have HLX := Aside0.mk hlx; have HN := Aside0.mk hn; clear hx hlx hn
  have CS := Aside0.mk cS; have CI := Aside0.mk cI; clear cS cI
  have hr1 : (s.toList != s.toList) = false := by simp
  have hr3 : (s.toList == s.toList) = true := by simp
  have hr2 : (u != u) = false := by simp
  have M0 := Aside0.mk ((Mem.start w).allocAt rfl #[.slice A0 x.funcs.length c0, .slice A1 x.consts.length c1] 25)
  go_enter Try.func10, Try.ntmps10
  go_wp2_with fail
  have C := szImage x _ 1048576 _ (M0.out.old HX.out) gx (by omega) (by omega)
  rw [e1] at C
  refine C.mono ?_; clear C
  rintro e w1 ⟨rfl, hb⟩
  have M1 := Aside0.mk (M0.out.step hb); clear M0 hb; have z0 := M1.out.box (.head _)
  have m1 : decide (s1 < 0) = false := by simp; omega
  go_wp2_with fail
  clear z0
  refine (toImage x _ _ (M1.out.old HX.out) HLX.out).mono ?_; rintro e w2 ⟨ds, rfl, hm, hb⟩; obtain ⟨q0, d0, q1, d1, rfl, i0, j0, i1, j1⟩ := kImageI_open (kImageI.K_of_M hm)
  have M2 := Aside0.mk (M1.out.push hb hm); clear hm hb M1
  have I0 := Aside0.mk i0; have J0 := Aside0.mk j0; have I1 := Aside0.mk i1; have J1 := Aside0.mk j1; clear i0 j0 i1 j1
  have z0 := M2.out.box (.tail _ (.head _))
  go_wp2_with fail
  clear z0
  refine (CS.out _ _ _ _ _ I0.out J0.out I1.out J1.out HN.out).mono ?_; rintro e w3 ⟨rfl, hb⟩
  have M3 := Aside0.mk ((M2.out.step hb).drop); clear hb M2 I0 J0 I1 J1
  have z0 := M3.out.box (.head _)
  go_wp2_with fail
  clear z0
  refine (toImage x _ _ (M3.out.old HX.out) HLX.out).mono ?_; rintro e w4 ⟨ds, rfl, hm, hb⟩; obtain ⟨q2, d2, q3, d3, rfl, i0, j0, i1, j1⟩ := kImageI_open (kImageI.K_of_M hm)
  have N4 := Aside0.mk (M3.out.push hb hm); clear hm hb M3 i0 j0 i1 j1
  have M4 := Aside0.mk (N4.out.allocAt rfl #[.slice q2 x.funcs.length d2, .slice q3 x.consts.length d3] 37); clear N4
  have z0 := M4.out.box (.tail _ (.tail _ (.head _))); have z1 := M4.out.box (.head _)
  go_wp2_with fail
  clear z0 z1
  obtain ⟨i0, j0, i1, j1⟩ : x.funcs.length ≤ d2 ∧ kFuncI.C (w4.alloc (.cells #[.slice q2 x.funcs.length d2, .slice q3 x.consts.length d3] 37)) q2 x.funcs.length x.funcs ∧ x.consts.length ≤ d3 ∧ kConst.C (w4.alloc (.cells #[.slice q2 x.funcs.length d2, .slice q3 x.consts.length d3] 37)) q3 x.consts.length x.consts := by
    obtain ⟨q0', d0', q1', d1', h, i0, j0, i1, j1⟩ := kImageI_open (M4.out.read (.tail _ (.head _)))
    cases h
    exact ⟨i0, j0, i1, j1⟩
  refine (CI.out _ _ _ _ _ i0 j0 i1 j1 HN.out).mono ?_; rintro e w5 ⟨rfl, hb⟩
  have M5 := Aside0.mk (M4.out.step hb); clear hb M4
  have z0 := M5.out.box (.tail _ (.tail _ (.head _))); have z1 := M5.out.box (.head _)
  go_wp2_with fail
  have RX := Aside0.mk (M5.out.read (.tail _ (.head _)))
  obtain ⟨L, HL, ML⟩ := Mem.hide M5
  have Ebx := Aside0.mk (show (Hold.box w4.heap.size #[.slice q2 x.funcs.length d2, .slice q3 x.consts.length d3] 37) ∈ L from HL.out ▸ (.head _))
  have EbA := Aside0.mk (show (Hold.box w.heap.size #[.slice A0 x.funcs.length c0, .slice A1 x.consts.length c1] 25) ∈ L from HL.out ▸ (.tail _ (.tail _ (.head _))))
  clear M5 z0 z1
  go_region_held3 (fun W => (∀ o, W.cell? ⟨w4.heap.size, o, none⟩ = (#[.slice q2 x.funcs.length d2, .slice q3 x.consts.length d3] : Array Value)[o]?) ∧ (∀ o, W.cell? ⟨w.heap.size, o, none⟩ = (#[.slice A0 x.funcs.length c0, .slice A1 x.consts.length c1] : Array Value)[o]?) ∧ Mem w W L) (first | exact ⟨(ML.out.drew).box Ebx.out, (ML.out.drew).box EbA.out, ML.out.drew⟩ | exact ⟨(N6.out.drop).box Ebx.out, (N6.out.drop).box EbA.out, N6.out.drop⟩ | exact ⟨(M7.out).box Ebx.out, (M7.out).box EbA.out, M7.out⟩) (first | (go_at_call 15; refine (toImage x _ _ (ML.out.drew.old HX.out) HLX.out).mono ?_; rintro e w6 ⟨ds, rfl, hm, hb⟩; obtain ⟨v0, v1, rfl, hr0, hr1⟩ := kImageI_openM hm; obtain ⟨X0, y0, rfl⟩ := Kd.R_slice hr0; obtain ⟨X1, y1, rfl⟩ := Kd.R_slice hr1; clear hr0 hr1; have N6 := Aside0.mk (ML.out.drew.push hb hm); have RX2 := Aside0.mk (kImageI.K_below (below_step (below_drew1 (Below.refl _ _)) hb) RX.out); clear hm hb) | (go_at_call 19; have C := eqImage x x _ _ _ RX2.out (N6.out.read (.head _)); rw [decide_eq_true rfl] at C; refine C.mono ?_; clear C; rintro e w7 ⟨rfl, hb⟩; have M7 := Aside0.mk ((N6.out.step hb).drop); clear hb))
  clear ML RX RX2 N6
  have hl := HL.out; subst hl; clear HL Ebx EbA
  go_wp2
  go_ret
  exact ⟨rfl, M7.out.below⟩
theorem le_sum {l : List Func} {y : Func} (h : y ∈ l) : sizeFunc y ≤ (l.map sizeFunc).sum := by
  induction l with
  | nil => cases h
  | cons a l ih =>
    rw [List.map_cons, List.sum_cons]
    rcases List.mem_cons.1 h with rfl | h
    · omega
    · have := ih h
      omega
theorem len_ok {x : Image} (h : (sizeImage x : Int) ≤ 1048576) : LenImage x := by
  have e : sizeImage x = x.funcs.length + (x.funcs.map sizeFunc).sum + (x.consts.length + (x.consts.map sizeConst).sum) := rfl
  refine ⟨by omega, fun y hy => ?_, by omega⟩
  have h1 := le_sum hy
  have e2 : sizeFunc y = y.caps.length + y.code.length + y.handlers.length := rfl
  exact ⟨by omega, by omega, by omega⟩
theorem law {GF : Func → Prop} (A0_0 : Option Addr) (c0_0 : Nat) (l0_0 : List Func) (A0_1 : Option Addr) (c0_1 : Nat) (l0_1 : List Const) (w : World)
    (hr0_0 : kFuncL.C w A0_0 l0_0.length l0_0) (hc0_0 : l0_0.length ≤ c0_0) (hr0_1 : kConst.C w A0_1 l0_1.length l0_1) (hc0_1 : l0_1.length ≤ c0_1)
    (g0 : (l0_0.length ≤ maxLen ∧ ∀ x ∈ l0_0, GF x) ∧ (l0_1.length ≤ maxLen ∧ ∀ x ∈ l0_1, (Lit.int .i64 x.kind).wf = true ∧ (Lit.int .u64 x.num).wf = true ∧ x.text.size ≤ maxLen)) :
    Calls Try.prog 10 #[.agg #[.slice A0_0 l0_0.length c0_0, .slice A0_1 l0_1.length c0_1]] w fun e w' => e = .returned (.bool true) ∧ Below w.heap.size w w' := by
  have hx := kImageL_mk w ⟨l0_0, l0_1⟩ hc0_0 hr0_0 hc0_1 hr0_1
  have gx : GoodImage ⟨l0_0, l0_1⟩ := ⟨fun _ _ => trivial, fun y hy => (g0.2.2 y hy).2.2⟩
  by_cases n1 : (1048576 : Int) < (sizeImage ⟨l0_0, l0_1⟩ : Int)
  · exact w1 ⟨l0_0, l0_1⟩ _ _ _ _ w hx gx (by unfold sub; rw [if_pos n1])
  · have e1 : sub 1048576 (sizeImage ⟨l0_0, l0_1⟩) = 1048576 - (sizeImage ⟨l0_0, l0_1⟩ : Int) := by unfold sub; rw [if_neg n1]
    obtain ⟨t, b, h1, h2⟩ := imgText ⟨l0_0, l0_1⟩
    exact w2 ⟨l0_0, l0_1⟩ _ _ _ _ w hx gx _ _ h1 h2 _ e1 (by omega) (len_ok (by omega)) (fun y hy => by have h := (g0.2.2 y hy).2.1; exact wf_u64 h)
end Go.Proofs.Ytcbaokflimdjnaa.LawFnExactImageText
end
section
namespace Go.Proofs.Ytcbaokflimdjnaa.Open
open Go.Proofs.YtcbaokflimdjnaaW.PrintWords Go.ChangeShapes Go.WideShapes
section
variable {H : Type} {enc : TypeId × Value → H} {P : Program} {w : World} {base : Nat} {spare : Nat → Bool} {held : Bool}
/-- What reads as a datum at type t reads by the kind d as a value that is G. -/
def Opens {α : Type} (enc : TypeId × Value → H) (P : Program) (w : World) (base : Nat) (spare : Nat → Bool) (held : Bool) (t : TypeId) (d : Kd α) (G : α → Prop) : Prop :=
  ∀ (fuel : Nat) (cs : List Value) (x : DataW H × List MemPlace), DataW.trod enc P w base spare held fuel t cs = some x → ∃ a, d.K w a cs ∧ G a
theorem opens_int {t : TypeId} {k : IntKind} (ht : P.underlying t = some (.int k)) : Opens enc P w base spare held t (Kd.int k) (fun n => (Lit.int k n).wf = true) := by
  intro fuel cs x h
  obtain ⟨n, rfl, _, hw⟩ := DataW.trod_int ht h
  exact ⟨n, rfl, hw⟩
theorem opens_bool {t : TypeId} (ht : P.underlying t = some .bool) : Opens enc P w base spare held t Kd.bool (fun _ => True) := by
  intro fuel cs x h
  obtain ⟨b, rfl, _⟩ := DataW.trod_bool ht h
  exact ⟨b, rfl, trivial⟩
theorem opens_string {t : TypeId} (ht : P.underlying t = some .string) : Opens enc P w base spare held t Kd.string (fun s => s.size ≤ maxLen) := by
  intro fuel cs x h
  obtain ⟨s, rfl, _, hw⟩ := DataW.trod_string ht h
  exact ⟨s, rfl, hw⟩
theorem list_choose {α : Type} {Q : Nat → α → Prop} : ∀ (n : Nat), (∀ i, i < n → ∃ a, Q i a) → ∃ l : List α, l.length = n ∧ ∀ i a, l[i]? = some a → Q i a
  | 0, _ => ⟨[], rfl, fun i a h => by simp at h⟩
  | n + 1, h => by
    obtain ⟨l, hl, hq⟩ := list_choose n (fun i hi => h i (by omega))
    obtain ⟨a, ha⟩ := h n (by omega)
    refine ⟨l ++ [a], by simp [hl], fun i b hb => ?_⟩
    rw [List.getElem?_append] at hb
    split at hb
    · exact hq i b hb
    · rename_i hi
      have hi0 : i - l.length = 0 := by
        rcases Nat.eq_zero_or_pos (i - l.length) with h0 | h0
        · exact h0
        · rw [List.getElem?_eq_none (by simp; omega)] at hb
          cases hb
      rw [hi0] at hb
      simp at hb
      subst hb
      have : i = n := by omega
      rw [this]
      exact ha
theorem opens_slice {α : Type} {t e e' : TypeId} {d : Kd α} {G : α → Prop} (ht : P.underlying t = some (.slice e)) (hc : P.cellsOf e = d.sz) (ho : Opens enc P w base spare held e d G) :
    Opens enc P w base spare held t (Kd.slice e' d) (fun xs => xs.length ≤ maxLen ∧ ∀ x ∈ xs, G x) := by
  intro fuel cs x h
  rcases DataW.trod_slice ht h with ⟨rfl, _⟩ | ⟨a, len, cap, elems, rest, n, _, rfl, _, _, hl, hm, hlen, hel, _⟩
  · exact ⟨[], ⟨none, 0, rfl, Nat.le_refl _, rfl, by simp, fun h => by simp at h⟩, by simp, fun x hx => by simp at hx⟩
  · have each : ∀ i, i < len → ∃ z : α, (∃ c, c.length = d.sz ∧ d.K w z c ∧ ∀ j u, c[j]? = some u → w.cell? (a.add (i * d.sz + j)) = some u) ∧ G z := by
      intro i hi
      have he := hel i hi
      rw [List.getElem?_eq_getElem (by omega), Option.bind_eq_some_iff] at he
      obtain ⟨c, hcs, hy⟩ := he
      obtain ⟨z, hk, hg⟩ := ho _ _ _ hy
      refine ⟨z, ⟨c, d.K_len hk, hk, fun j u hu => ?_⟩, hg⟩
      obtain ⟨_, hcl, hcell⟩ := World.cells?_some hcs
      have hj : j < c.length := (List.getElem?_eq_some_iff.1 hu).1
      have := hcell j (by omega)
      rw [hc, Addr.add_add] at this
      rw [this, hu]
    obtain ⟨l, hll, hq⟩ := list_choose len each
    refine ⟨l, ⟨some a, cap, by rw [hll], by omega, rfl, by unfold maxLen at hm; omega, fun _ => ⟨a, rfl, fun j p hp => ?_⟩⟩, by omega, fun z hz => ?_⟩
    · obtain ⟨⟨c, h1, h2, h3⟩, _⟩ := hq j p hp
      exact ⟨c, h1, h2, h3⟩
    · obtain ⟨i, hi⟩ := List.getElem?_of_mem hz
      exact (hq i z hi).2
/-- The fields from a place on, read in line by the kind d. -/
def Fields {α : Type} (enc : TypeId × Value → H) (P : Program) (w : World) (base : Nat) (spare : Nat → Bool) (held : Bool) (fs : List Field) (off : Nat) (d : Kd α) (G : α → Prop) : Prop :=
  ∀ (n : Nat) (cs : List Value), cs.length = off + d.sz → (∀ f ∈ fs, ∃ x, DataW.trod enc P w base spare held n f.type ((cs.drop f.offset).take (P.cellsOf f.type)) = some x) → ∃ a, d.K w a (cs.drop off) ∧ G a
theorem fields_one {α : Type} {f : Field} {off : Nat} {d : Kd α} {G : α → Prop} (hf : f.offset = off) (hc : P.cellsOf f.type = d.sz) (ho : Opens enc P w base spare held f.type d G) : Fields enc P w base spare held [f] off d G := by
  intro n cs hl h
  obtain ⟨x, hx⟩ := h f (by simp)
  obtain ⟨a, hk, hg⟩ := ho _ _ _ hx
  refine ⟨a, ?_, hg⟩
  rw [hf, hc, List.take_of_length_le (by simp [hl])] at hk
  exact hk
theorem fields_cons {α β : Type} {f : Field} {fs : List Field} {off : Nat} {d : Kd α} {d' : Kd β} {G : α → Prop} {G' : β → Prop} (hf : f.offset = off) (hc : P.cellsOf f.type = d.sz) (ho : Opens enc P w base spare held f.type d G)
    (hr : Fields enc P w base spare held fs (off + d.sz) d' G') : Fields enc P w base spare held (f :: fs) off (Kd.pair d d') (fun x => G x.1 ∧ G' x.2) := by
  intro n cs hl h
  obtain ⟨x, hx⟩ := h f (by simp)
  obtain ⟨a, hk, hg⟩ := ho _ _ _ hx
  rw [hf, hc] at hk
  have hl' : cs.length = off + d.sz + d'.sz := by rw [hl]; show off + (d.sz + d'.sz) = _; omega
  obtain ⟨b, hk', hg'⟩ := hr n cs hl' (fun g hg => h g (by simp [hg]))
  refine ⟨(a, b), ⟨_, _, ?_, hk, hk'⟩, hg, hg'⟩
  rw [← List.drop_drop, List.take_append_drop]
theorem opens_struct {α : Type} {t : TypeId} {fs : Array Field} {d : Kd α} {G : α → Prop} (ht : P.underlying t = some (.struct fs)) (hc : P.cellsOf t = d.sz) (hf : Fields enc P w base spare held fs.toList 0 d G) : Opens enc P w base spare held t d G := by
  intro fuel cs x h
  obtain ⟨xs, n, _, _, hl, hlen, hx⟩ := DataW.trod_struct ht h
  obtain ⟨a, hk, hg⟩ := hf n cs (by omega) (fun f hm => by
    obtain ⟨i, hi⟩ := List.getElem?_of_mem hm
    have hi' : i < fs.size := by have := (List.getElem?_eq_some_iff.1 hi).1; simpa using this
    have := hx i f (by rw [← hi, Array.getElem?_toList])
    rw [List.getElem?_eq_getElem (by omega)] at this
    exact ⟨_, this⟩)
  exact ⟨a, by simpa using hk, hg⟩
/-- A structure by its fields: where the kind's own value is the tuple. -/
theorem opens_iso {α β : Type} {t : TypeId} {d : Kd α} {G : α → Prop} (f : β → α) (g : α → β) (hfg : ∀ a, f (g a) = a) (h : Opens enc P w base spare held t d G) : Opens enc P w base spare held t (Kd.iso d f) (fun b => G (f b)) := by
  intro fuel cs x hx
  obtain ⟨a, hk, ha⟩ := h fuel cs x hx
  refine ⟨g a, ?_, by show G (f (g a)); rw [hfg]; exact ha⟩
  show d.K w (f (g a)) cs
  rw [hfg]
  exact hk
/-- An argument: its cells, by the kind. -/
theorem opens_arg {α : Type} {t : TypeId} {d : Kd α} {G : α → Prop} {v : Value} {dd : DataW H} {p : List MemPlace} (ho : Opens enc P w base spare held t d G) (h : DataW.Trod enc P w base spare held t v dd p) : ∃ a, d.K w a v.cells.toList ∧ G a := by
  obtain ⟨fuel, hf⟩ := h
  exact ho _ _ _ hf
end
end Go.Proofs.Ytcbaokflimdjnaa.Open
end
section
namespace Go.Proofs.Ytcbaokflimdjnaa.fnExactImageText
open Go.ChangeShapes Go.WideShapes Go.ChangeAt Go.RowKit Go.Proofs.YtcbaokflimdjnaaW.PrintWords Go.Proofs.Ytcbaokflimdjnaa.Open
open Go.ChangeMaps (open_string shut_string)
set_option linter.unusedVariables false
set_option linter.unusedSimpArgs false
theorem own : ownKnob Try.prog.godebug = none := by kernel_rfl
theorem laidOut : laidOutB Try.prog = true := by kernel_rfl
def G3 (n : Int) : Prop := (Lit.int .i64 n).wf = true
theorem op3 {H : Type} {enc : TypeId × Value → H} {w : World} {base : Nat} {spare : Nat → Bool} {held : Bool} : Opens enc Try.prog w base spare held 3 (Kd.int .i64) G3 := opens_int Try.underlying3
def G4 (_ : Bool) : Prop := True
theorem op4 {H : Type} {enc : TypeId × Value → H} {w : World} {base : Nat} {spare : Nat → Bool} {held : Bool} : Opens enc Try.prog w base spare held 4 Kd.bool G4 := opens_bool Try.underlying4
def Gt197 (x : Bool × Int) : Prop := G4 x.1 ∧ G3 x.2
theorem opt197 {H : Type} {enc : TypeId × Value → H} {w : World} {base : Nat} {spare : Nat → Bool} {held : Bool} : Opens enc Try.prog w base spare held 197 (Kd.pair Kd.bool (Kd.int .i64)) Gt197 := opens_struct Try.underlying197 (by kernel_rfl) (fields_cons rfl (by kernel_rfl) op4 (fields_one rfl (by kernel_rfl) op3))
def G197 (x : Go.Proofs.Ytcbaokflimdjnaa.Cap) : Prop := Gt197 (x.reg, x.index)
theorem op197 {H : Type} {enc : TypeId × Value → H} {w : World} {base : Nat} {spare : Nat → Bool} {held : Bool} : Opens enc Try.prog w base spare held 197 Go.Proofs.Ytcbaokflimdjnaa.kCap G197 := opens_iso (fun x : Go.Proofs.Ytcbaokflimdjnaa.Cap => (x.reg, x.index)) (fun t => ⟨t.1, t.2⟩) (fun _ => rfl) opt197
def G125 (xs : List Go.Proofs.Ytcbaokflimdjnaa.Cap) : Prop := xs.length ≤ maxLen ∧ ∀ x ∈ xs, G197 x
theorem op125 {H : Type} {enc : TypeId × Value → H} {w : World} {base : Nat} {spare : Nat → Bool} {held : Bool} : Opens enc Try.prog w base spare held 125 (Kd.slice 197 Go.Proofs.Ytcbaokflimdjnaa.kCap) G125 := opens_slice Try.underlying125 (by kernel_rfl) op197
def Gt199 (x : Int × Int × Int) : Prop := G3 x.1 ∧ G3 x.2.1 ∧ G3 x.2.2
theorem opt199 {H : Type} {enc : TypeId × Value → H} {w : World} {base : Nat} {spare : Nat → Bool} {held : Bool} : Opens enc Try.prog w base spare held 199 (Kd.pair (Kd.int .i64) (Kd.pair (Kd.int .i64) (Kd.int .i64))) Gt199 := opens_struct Try.underlying199 (by kernel_rfl) (fields_cons rfl (by kernel_rfl) op3 (fields_cons rfl (by kernel_rfl) op3 (fields_one rfl (by kernel_rfl) op3)))
def G199 (x : Go.Proofs.Ytcbaokflimdjnaa.Ins) : Prop := Gt199 (x.op, x.a, x.b)
theorem op199 {H : Type} {enc : TypeId × Value → H} {w : World} {base : Nat} {spare : Nat → Bool} {held : Bool} : Opens enc Try.prog w base spare held 199 Go.Proofs.Ytcbaokflimdjnaa.kIns G199 := opens_iso (fun x : Go.Proofs.Ytcbaokflimdjnaa.Ins => (x.op, x.a, x.b)) (fun t => ⟨t.1, t.2.1, t.2.2⟩) (fun _ => rfl) opt199
def G126 (xs : List Go.Proofs.Ytcbaokflimdjnaa.Ins) : Prop := xs.length ≤ maxLen ∧ ∀ x ∈ xs, G199 x
theorem op126 {H : Type} {enc : TypeId × Value → H} {w : World} {base : Nat} {spare : Nat → Bool} {held : Bool} : Opens enc Try.prog w base spare held 126 (Kd.slice 199 Go.Proofs.Ytcbaokflimdjnaa.kIns) G126 := opens_slice Try.underlying126 (by kernel_rfl) op199
def Gt201 (x : Int × Int × Int) : Prop := G3 x.1 ∧ G3 x.2.1 ∧ G3 x.2.2
theorem opt201 {H : Type} {enc : TypeId × Value → H} {w : World} {base : Nat} {spare : Nat → Bool} {held : Bool} : Opens enc Try.prog w base spare held 201 (Kd.pair (Kd.int .i64) (Kd.pair (Kd.int .i64) (Kd.int .i64))) Gt201 := opens_struct Try.underlying201 (by kernel_rfl) (fields_cons rfl (by kernel_rfl) op3 (fields_cons rfl (by kernel_rfl) op3 (fields_one rfl (by kernel_rfl) op3)))
def G201 (x : Go.Proofs.Ytcbaokflimdjnaa.Handler) : Prop := Gt201 (x.from_, x.to_, x.target)
theorem op201 {H : Type} {enc : TypeId × Value → H} {w : World} {base : Nat} {spare : Nat → Bool} {held : Bool} : Opens enc Try.prog w base spare held 201 Go.Proofs.Ytcbaokflimdjnaa.kHandler G201 := opens_iso (fun x : Go.Proofs.Ytcbaokflimdjnaa.Handler => (x.from_, x.to_, x.target)) (fun t => ⟨t.1, t.2.1, t.2.2⟩) (fun _ => rfl) opt201
def G127 (xs : List Go.Proofs.Ytcbaokflimdjnaa.Handler) : Prop := xs.length ≤ maxLen ∧ ∀ x ∈ xs, G201 x
theorem op127 {H : Type} {enc : TypeId × Value → H} {w : World} {base : Nat} {spare : Nat → Bool} {held : Bool} : Opens enc Try.prog w base spare held 127 (Kd.slice 201 Go.Proofs.Ytcbaokflimdjnaa.kHandler) G127 := opens_slice Try.underlying127 (by kernel_rfl) op201
def Gt129 (x : Int × Int × (List Go.Proofs.Ytcbaokflimdjnaa.Cap) × (List Go.Proofs.Ytcbaokflimdjnaa.Ins) × (List Go.Proofs.Ytcbaokflimdjnaa.Handler)) : Prop := G3 x.1 ∧ G3 x.2.1 ∧ G125 x.2.2.1 ∧ G126 x.2.2.2.1 ∧ G127 x.2.2.2.2
theorem opt129 {H : Type} {enc : TypeId × Value → H} {w : World} {base : Nat} {spare : Nat → Bool} {held : Bool} : Opens enc Try.prog w base spare held 129 (Kd.pair (Kd.int .i64) (Kd.pair (Kd.int .i64) (Kd.pair (Kd.slice 197 Go.Proofs.Ytcbaokflimdjnaa.kCap) (Kd.pair (Kd.slice 199 Go.Proofs.Ytcbaokflimdjnaa.kIns) (Kd.slice 201 Go.Proofs.Ytcbaokflimdjnaa.kHandler))))) Gt129 := opens_struct Try.underlying129 (by kernel_rfl) (fields_cons rfl (by kernel_rfl) op3 (fields_cons rfl (by kernel_rfl) op3 (fields_cons rfl (by kernel_rfl) op125 (fields_cons rfl (by kernel_rfl) op126 (fields_one rfl (by kernel_rfl) op127)))))
def G129 (x : Go.Proofs.Ytcbaokflimdjnaa.Func) : Prop := Gt129 (x.params, x.regs, x.caps, x.code, x.handlers)
theorem op129 {H : Type} {enc : TypeId × Value → H} {w : World} {base : Nat} {spare : Nat → Bool} {held : Bool} : Opens enc Try.prog w base spare held 129 Go.Proofs.Ytcbaokflimdjnaa.kFuncL G129 := opens_iso (fun x : Go.Proofs.Ytcbaokflimdjnaa.Func => (x.params, x.regs, x.caps, x.code, x.handlers)) (fun t => ⟨t.1, t.2.1, t.2.2.1, t.2.2.2.1, t.2.2.2.2⟩) (fun _ => rfl) opt129
def G22 (xs : List Go.Proofs.Ytcbaokflimdjnaa.Func) : Prop := xs.length ≤ maxLen ∧ ∀ x ∈ xs, G129 x
theorem op22 {H : Type} {enc : TypeId × Value → H} {w : World} {base : Nat} {spare : Nat → Bool} {held : Bool} : Opens enc Try.prog w base spare held 22 (Kd.slice 129 Go.Proofs.Ytcbaokflimdjnaa.kFuncL) G22 := opens_slice Try.underlying22 (by kernel_rfl) op129
def G98 (n : Int) : Prop := (Lit.int .u64 n).wf = true
theorem op98 {H : Type} {enc : TypeId × Value → H} {w : World} {base : Nat} {spare : Nat → Bool} {held : Bool} : Opens enc Try.prog w base spare held 98 (Kd.int .u64) G98 := opens_int Try.underlying98
def G9 (s : ByteArray) : Prop := s.size ≤ maxLen
theorem op9 {H : Type} {enc : TypeId × Value → H} {w : World} {base : Nat} {spare : Nat → Bool} {held : Bool} : Opens enc Try.prog w base spare held 9 Kd.string G9 := opens_string Try.underlying9
def Gt131 (x : Int × Int × ByteArray) : Prop := G3 x.1 ∧ G98 x.2.1 ∧ G9 x.2.2
theorem opt131 {H : Type} {enc : TypeId × Value → H} {w : World} {base : Nat} {spare : Nat → Bool} {held : Bool} : Opens enc Try.prog w base spare held 131 (Kd.pair (Kd.int .i64) (Kd.pair (Kd.int .u64) Kd.string)) Gt131 := opens_struct Try.underlying131 (by kernel_rfl) (fields_cons rfl (by kernel_rfl) op3 (fields_cons rfl (by kernel_rfl) op98 (fields_one rfl (by kernel_rfl) op9)))
def G131 (x : Go.Proofs.Ytcbaokflimdjnaa.Const) : Prop := Gt131 (x.kind, x.num, x.text)
theorem op131 {H : Type} {enc : TypeId × Value → H} {w : World} {base : Nat} {spare : Nat → Bool} {held : Bool} : Opens enc Try.prog w base spare held 131 Go.Proofs.Ytcbaokflimdjnaa.kConst G131 := opens_iso (fun x : Go.Proofs.Ytcbaokflimdjnaa.Const => (x.kind, x.num, x.text)) (fun t => ⟨t.1, t.2.1, t.2.2⟩) (fun _ => rfl) opt131
def G23 (xs : List Go.Proofs.Ytcbaokflimdjnaa.Const) : Prop := xs.length ≤ maxLen ∧ ∀ x ∈ xs, G131 x
theorem op23 {H : Type} {enc : TypeId × Value → H} {w : World} {base : Nat} {spare : Nat → Bool} {held : Bool} : Opens enc Try.prog w base spare held 23 (Kd.slice 131 Go.Proofs.Ytcbaokflimdjnaa.kConst) G23 := opens_slice Try.underlying23 (by kernel_rfl) op131
def Gt25 (x : (List Go.Proofs.Ytcbaokflimdjnaa.Func) × (List Go.Proofs.Ytcbaokflimdjnaa.Const)) : Prop := G22 x.1 ∧ G23 x.2
abbrev G25 := Gt25
theorem op25 {H : Type} {enc : TypeId × Value → H} {w : World} {base : Nat} {spare : Nat → Bool} {held : Bool} : Opens enc Try.prog w base spare held 25 (Kd.pair (Kd.slice 129 Go.Proofs.Ytcbaokflimdjnaa.kFuncL) (Kd.slice 131 Go.Proofs.Ytcbaokflimdjnaa.kConst)) G25 := opens_struct Try.underlying25 (by kernel_rfl) (fields_cons rfl (by kernel_rfl) op22 (fields_one rfl (by kernel_rfl) op23))
set_option maxRecDepth 100000 in
theorem lifted (os : Os) (started : os.Started) (H : Type) (enc : TypeId × Value → H) :
    ReturnsInHanded {} Try.checked os 10 .any (Rows.fnExactImageTextSpec.pre6 enc Try.prog Try.f10 Rows.fnExactImageTextRow.domain false) (Rows.fnExactImageTextSpec.post enc Try.prog Try.f10 false true false false) := by
  refine returnsInHanded_of_change_sized (C := Try.checked) own started (by kernel_rfl) Try.func10
    (ChangeSpec.witness6 (enc := enc) (C := Try.checked) false ⟨#[], #[.agg #[.slice none 0 0, .slice none 0 0]], []⟩ 8 (by kernel_rfl) (by kernel_rfl) (by kernel_rfl) (by kernel_rfl)) ?_
  intro W base args ds gs before hval0 hW hcnd hsz0 _
  have hval : ∀ (j : Nat) t v, Try.f10.params[j]? = some t → args[j]? = some v → Value.okWide Try.prog W .any base t v := hval0
  have hW' := hW
  obtain ⟨p, q, hA0, hV, rfl, hfz, hnd⟩ := hW
  have hA : DataW.TrodAll enc Try.prog W 0 (fun _ => true) true Try.f10.params.toList args.toList ds p := hA0
  rw [Try.params10] at hA hval
  obtain ⟨v0, vs0, d0, ds0, p0, q0, hargs0, rfl, rfl, h0, r0⟩ := trodAll_cons hA
  obtain ⟨rfl, rfl, rfl⟩ := trodAll_nil r0
  obtain rfl : args = #[v0] := by cases args; simp_all
  obtain ⟨rfl, rfl⟩ := trodVars_none hV
  have k0 := h0
  have lt0 : ∀ x ∈ p0, x.block < W.heap.size := by obtain ⟨m, hm⟩ := k0; exact DataW.trod_lt m _ _ _ hm
  obtain ⟨cs0, rfl, hcz0⟩ := okWide_struct Try.underlying25 (hval 0 25 v0 rfl rfl)
  obtain ⟨x0, hk0, hg0⟩ := opens_arg op25 h0
  obtain ⟨x0_0, x0_1⟩ := x0
  obtain ⟨_, _, e0, ⟨A0_0, c0_0, rfl, hl0_0, hr0_0⟩, ⟨A0_1, c0_1, rfl, hl0_1, hr0_1⟩⟩ := hk0
  obtain rfl : cs0 = #[.slice A0_0 x0_0.length c0_0, .slice A0_1 x0_1.length c0_1] := by obtain ⟨l⟩ := cs0; exact congrArg Array.mk e0
  clear hA0 hval0 hsz0
  refine (LawFnExactImageText.law A0_0 c0_0 x0_0 A0_1 c0_1 x0_1 W hr0_0 hl0_0 hr0_1 hl0_1 hg0).mono fun e W' ⟨he, bel⟩ => ?_
  subst he
  exact ⟨_, rfl, _, _, _, [], _, [], hW', trodAll_mk1 (shut_bool Try.underlying4 _), (trodAll_cons_mk (Below.trod laidOut (by kernel_rfl) (of_decide_eq_true (by kernel_rfl)) k0 bel lt0) trodAll_mk0), rfl, bel.frame _, fun h => by cases h⟩
theorem and_true_ {a b : Bool} (ha : a = true) (hb : b = true) : (a && b) = true := by rw [ha, hb]; rfl
theorem closed0 : (Rows.fnExactImageTextRow.wf (OpenSpec.ofChange Rows.fnExactImageTextSpec)) = true := by kernel_rfl
theorem closed1 : (laidOutB Try.pinned.checked.prog) = true := by kernel_rfl
theorem closed2 : (mapsRowed Try.pinned.checked.prog) = true := by kernel_rfl
theorem closed3 : (Try.f10.params.all (Try.pinned.checked.prog.readableRec ·)) = true := by kernel_rfl
theorem closed4 : (namedTie Try.pinned.checked.prog Rows.fnExactImageTextRow.named Rows.fnExactImageTextSpec.vars) = true := by kernel_rfl
theorem closed5 : ((Rows.fnExactImageTextRow.stops == [])) = true := by kernel_rfl
theorem closed6 : ((Try.pinned.checked.prog.stops == [])) = true := by kernel_rfl
theorem closed7 : ((Rows.fnExactImageTextRow.knobs == [])) = true := by kernel_rfl
theorem closed8 : ((Try.pinned.checked.prog.stopKnobs == [])) = true := by kernel_rfl
theorem closed9 : ((Rows.fnExactImageTextRow.inPlace == Try.pinned.checked.prog.inPlace 10)) = true := by kernel_rfl
theorem closed10 : ((Rows.fnExactImageTextRow.unfollowed == Try.pinned.checked.prog.unfollowed 10)) = true := by kernel_rfl
theorem closed11 : ((Rows.fnExactImageTextRow.recurses == Try.pinned.checked.prog.recurses 10)) = true := by kernel_rfl
theorem closed12 : ((Rows.fnExactImageTextRow.named == Try.pinned.checked.prog.varsNamed 10)) = true := by kernel_rfl
theorem closed13 : ((Rows.fnExactImageTextRow.maps == ((Try.f10.params.toList ++ Rows.fnExactImageTextSpec.plain.varTypes Try.pinned.checked.prog)).any (Try.pinned.checked.prog.mapsRec ·))) = true := by kernel_rfl
theorem closed14 : ((Rows.fnExactImageTextRow.ifaces == ((Try.f10.params.toList ++ Rows.fnExactImageTextSpec.plain.varTypes Try.pinned.checked.prog)).any (Try.pinned.checked.prog.ifacesRec ·))) = true := by kernel_rfl
theorem closed15 : ((Rows.fnExactImageTextRow.mapsOut == Try.pinned.checked.prog.mapsAmong Try.f10.resultTypes.toList)) = true := by kernel_rfl
theorem closed16 : ((Rows.fnExactImageTextRow.loops == ((Try.f10.params.toList ++ Rows.fnExactImageTextSpec.plain.varTypes Try.pinned.checked.prog)).any (Try.pinned.checked.prog.loopsFrom ·))) = true := by kernel_rfl
theorem closed17 : ((Rows.fnExactImageTextRow.wideKeys == (Try.f10.params.toList ++ Rows.fnExactImageTextSpec.plain.varTypes Try.pinned.checked.prog ++ Try.f10.resultTypes.toList).any (Try.pinned.checked.prog.wideKeysFrom ·))) = true := by kernel_rfl
theorem closed18 : (Rows.fnExactImageTextSpec.vars.all (Try.pinned.checked.prog.varReadable ·)) = true := by kernel_rfl
theorem closed19 : (Try.f10.resultTypes.all (fun t => Try.pinned.checked.prog.readableRec t && decide (t < Try.pinned.checked.prog.types.size))) = true := by kernel_rfl
theorem closed20 : ((Rows.fnExactImageTextRow.ifacesOut == Try.f10.resultTypes.toList.any (Try.pinned.checked.prog.ifacesRec ·))) = true := by kernel_rfl
theorem closed21 : ((Rows.fnExactImageTextRow.loopsOut == Try.f10.resultTypes.toList.any (Try.pinned.checked.prog.loopsFrom ·))) = true := by kernel_rfl
theorem closed22 : ((Rows.fnExactImageTextRow.plainKeys == Try.pinned.checked.prog.plainKeys)) = true := by kernel_rfl
theorem closed23 : (Rows.fnExactImageTextRow.shortTexts.isNone) = true := by kernel_rfl
theorem closed24 : (Try.pinned.checked.prog.stopsHeard) = true := by kernel_rfl
theorem closed25 : (Try.pinned.checked.prog.mayEnter) = true := by kernel_rfl
theorem closed26 : ((Rows.fnExactImageTextRow.lifted == Try.pinned.checked.prog.liftsFinal)) = true := by kernel_rfl
theorem closed27 : ((Try.pinned.checked.prog.make == some Rows.fnExactImageTextRow.make)) = true := by kernel_rfl
theorem closed28 : ((Rows.fnExactImageTextRow.kinds == (if Rows.fnExactImageTextRow.domain.isEmpty then [] else Try.f10.params.toList.map fun t => match Try.pinned.checked.prog.underlying t with | some (.int k) => some k | _ => none))) = true := by kernel_rfl
theorem closed29 : ((Rows.fnExactImageTextRow.pinned == Rows.fnExactImageTextRow.pinnedBy)) = true := by kernel_rfl
theorem closed30 : ((Rows.fnExactImageTextRow.veiled == (Try.f10.params.toList ++ Rows.fnExactImageTextSpec.plain.varTypes Try.pinned.checked.prog ++ Try.f10.resultTypes.toList).any (Try.pinned.checked.prog.veiledRec ·))) = true := by kernel_rfl
theorem closed31 : (Rows.fnExactImageTextRow.veiledFits Try.pinned.checked.prog Try.f10.params.toList (Try.f10.params.toList ++ Rows.fnExactImageTextSpec.plain.varTypes Try.pinned.checked.prog ++ Try.f10.resultTypes.toList)) = true := by kernel_rfl
set_option maxRecDepth 100000 in
theorem closed : joinedFacts Try.pinned.checked.prog 10 Try.f10 Rows.fnExactImageTextSpec Rows.fnExactImageTextRow = true := by
  show (Rows.fnExactImageTextRow.wf (OpenSpec.ofChange Rows.fnExactImageTextSpec) && laidOutB Try.pinned.checked.prog && mapsRowed Try.pinned.checked.prog && Try.f10.params.all (Try.pinned.checked.prog.readableRec ·) && namedTie Try.pinned.checked.prog Rows.fnExactImageTextRow.named Rows.fnExactImageTextSpec.vars && (Rows.fnExactImageTextRow.stops == []) && (Try.pinned.checked.prog.stops == []) && (Rows.fnExactImageTextRow.knobs == []) && (Try.pinned.checked.prog.stopKnobs == []) && (Rows.fnExactImageTextRow.inPlace == Try.pinned.checked.prog.inPlace 10) && (Rows.fnExactImageTextRow.unfollowed == Try.pinned.checked.prog.unfollowed 10) && (Rows.fnExactImageTextRow.recurses == Try.pinned.checked.prog.recurses 10) && (Rows.fnExactImageTextRow.named == Try.pinned.checked.prog.varsNamed 10) && (Rows.fnExactImageTextRow.maps == ((Try.f10.params.toList ++ Rows.fnExactImageTextSpec.plain.varTypes Try.pinned.checked.prog)).any (Try.pinned.checked.prog.mapsRec ·)) && (Rows.fnExactImageTextRow.ifaces == ((Try.f10.params.toList ++ Rows.fnExactImageTextSpec.plain.varTypes Try.pinned.checked.prog)).any (Try.pinned.checked.prog.ifacesRec ·)) && (Rows.fnExactImageTextRow.mapsOut == Try.pinned.checked.prog.mapsAmong Try.f10.resultTypes.toList) && (Rows.fnExactImageTextRow.loops == ((Try.f10.params.toList ++ Rows.fnExactImageTextSpec.plain.varTypes Try.pinned.checked.prog)).any (Try.pinned.checked.prog.loopsFrom ·)) && (Rows.fnExactImageTextRow.wideKeys == (Try.f10.params.toList ++ Rows.fnExactImageTextSpec.plain.varTypes Try.pinned.checked.prog ++ Try.f10.resultTypes.toList).any (Try.pinned.checked.prog.wideKeysFrom ·)) && Rows.fnExactImageTextSpec.vars.all (Try.pinned.checked.prog.varReadable ·) && Try.f10.resultTypes.all (fun t => Try.pinned.checked.prog.readableRec t && decide (t < Try.pinned.checked.prog.types.size)) && (Rows.fnExactImageTextRow.ifacesOut == Try.f10.resultTypes.toList.any (Try.pinned.checked.prog.ifacesRec ·)) && (Rows.fnExactImageTextRow.loopsOut == Try.f10.resultTypes.toList.any (Try.pinned.checked.prog.loopsFrom ·)) && (Rows.fnExactImageTextRow.plainKeys == Try.pinned.checked.prog.plainKeys) && Rows.fnExactImageTextRow.shortTexts.isNone && Try.pinned.checked.prog.stopsHeard && Try.pinned.checked.prog.mayEnter && (Rows.fnExactImageTextRow.lifted == Try.pinned.checked.prog.liftsFinal) && (Try.pinned.checked.prog.make == some Rows.fnExactImageTextRow.make) && (Rows.fnExactImageTextRow.kinds == (if Rows.fnExactImageTextRow.domain.isEmpty then [] else Try.f10.params.toList.map fun t => match Try.pinned.checked.prog.underlying t with | some (.int k) => some k | _ => none)) && (Rows.fnExactImageTextRow.pinned == Rows.fnExactImageTextRow.pinnedBy) && (Rows.fnExactImageTextRow.veiled == (Try.f10.params.toList ++ Rows.fnExactImageTextSpec.plain.varTypes Try.pinned.checked.prog ++ Try.f10.resultTypes.toList).any (Try.pinned.checked.prog.veiledRec ·)) && Rows.fnExactImageTextRow.veiledFits Try.pinned.checked.prog Try.f10.params.toList (Try.f10.params.toList ++ Rows.fnExactImageTextSpec.plain.varTypes Try.pinned.checked.prog ++ Try.f10.resultTypes.toList)) = true
  exact (and_true_ (and_true_ (and_true_ (and_true_ (and_true_ (and_true_ (and_true_ (and_true_ (and_true_ (and_true_ (and_true_ (and_true_ (and_true_ (and_true_ (and_true_ (and_true_ (and_true_ (and_true_ (and_true_ (and_true_ (and_true_ (and_true_ (and_true_ (and_true_ (and_true_ (and_true_ (and_true_ (and_true_ (and_true_ (and_true_ (and_true_ closed0 closed1) closed2) closed3) closed4) closed5) closed6) closed7) closed8) closed9) closed10) closed11) closed12) closed13) closed14) closed15) closed16) closed17) closed18) closed19) closed20) closed21) closed22) closed23) closed24) closed25) closed26) closed27) closed28) closed29) closed30) closed31)
theorem named : Try.pinned.checked.prog.funcNamed Rows.fnExactImageTextRow.func = some 10 := by kernel_rfl
theorem over : Rows.fnExactImageTextRow.holds Try.pinned (OpenSpec.ofChange Rows.fnExactImageTextSpec) :=
  OpenClaim.holds_of_wide 10 Try.f10 rfl rfl rfl rfl rfl rfl rfl ⟨rfl, rfl, rfl, rfl, rfl⟩ rfl rfl rfl rfl rfl named Try.func10 closed
    (of_decide_eq_true (by kernel_rfl)) (by unfold Func.isWrapper; first | (rw [if_pos (by decide +kernel)]; kernel_rfl) | (rw [if_neg (by decide +kernel)]; exact ⟨rfl, rfl⟩))
    (fun os started H enc _ => lifted os started H enc)
theorem proved : Rows.FnExactImageTextSaid := over
#print axioms proved
end Go.Proofs.Ytcbaokflimdjnaa.fnExactImageText
namespace Go.Proofs.Ytcbaokflimdjnaa
/-- The row, under a short name, for the claim. -/
theorem fnExactImageText_holds : Rows.FnExactImageTextSaid := fnExactImageText.proved
end Go.Proofs.Ytcbaokflimdjnaa
end
