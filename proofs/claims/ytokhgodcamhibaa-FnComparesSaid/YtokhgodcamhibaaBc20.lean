/- The row of 'FnCompares': for every input the law returns true, and each argument reads behind the call as it read before. No condition. -/
import Derived.Deep.DeepCutAuto
import Derived.ProofKit
import Derived.OpenShut
import Derived.ChangeOld
import Derived.ChangeShapes
import Derived.WideShapes
import Derived.ChangeArms
import Derived.DataReads
import Derived.DataElems
import Derived.Test.YtokhgodcamhibaaRows
import Derived.WalkKit
import Derived.ShutString
import Derived.Below
import Derived.SizedLaws
import Derived.Test.YtokhgodcamhibaaBc19
import Derived.Test.YtokhgodcamhibaaBc1
section
namespace Go.Proofs.Ytokhgodcamhibaa.Cmp
open Go.RowKit Go.Proofs.YtokhgodcamhibaaW.PrintWords Go.Proofs.YtokhgodcamhibaaW.PrintLast Go.Proofs.YtokhgodcamhibaaW.PrintMore Go.Proofs.Ytokhgodcamhibaa.Law Go.Proofs.Ytokhgodcamhibaa.Fl Go.Proofs.Ytokhgodcamhibaa.FlI Go.Proofs.Ytokhgodcamhibaa.Num Go.Proofs.Ytokhgodcamhibaa.Dob Go.Proofs.Ytokhgodcamhibaa.QFnExactDoBinary Go.Proofs.Ytokhgodcamhibaa.QFnQuotients Go.Proofs.Ytokhgodcamhibaa.QFnRoots Go.Proofs.Ytokhgodcamhibaa.QFnCompares Go.Proofs.Ytokhgodcamhibaa Go.Proofs.Ytokhgodcamhibaa.Steps Ieee
set_option linter.unusedVariables false
set_option linter.unusedSimpArgs false
set_option maxHeartbeats 8000000 in
set_option maxRecDepth 100000 in
theorem wBig (A0 : Option Addr) (c0 : Nat) (l0 : List Int) (w : World) (hr0 : Kd.C (Kd.int .u8) w A0 l0.length l0) (hc0 : l0.length ≤ c0) (hbig : laws_big.f l0 = some true) :
    Calls Try.prog 5 #[.slice A0 l0.length c0] w fun e w' => e = .returned (.bool true) ∧ Below w.heap.size w w' := by
  have HB := Aside0.mk hbig; clear hbig
  have HR := Aside0.mk hr0; have HC := Aside0.mk hc0; clear hr0 hc0
  go_enter Try.func5, Try.ntmps5
  go_wp2_with fail
  refine (laws_big.calls A0 c0 l0 true _ HR.out HC.out HB.out).mono ?_; rintro e w1 ⟨rfl, hb⟩
  have M1 := Aside0.mk ((Mem.start w).step hb.below); clear hb
  go_wp2
  go_ret
  exact ⟨rfl, M1.out.below⟩
def cmpL.T5 : Bool × List (List Nat × List Nat) := (true, [([], []), ([0], [0]), ([], []), ([2, 1], [2]), ([1, 3], [1, 3]), ([4, 3], [4]), ([5], [5]), ([6, 5, 5], [5, 6]), ([5], [5]), ([8, 7, 5], [5, 8]), ([7, 9, 5], [5, 7, 9]), ([5, 10], [5, 10]), ([11, 9, 0, 1, 2, 3, 4, 5, 6, 7, 8, 9, 10, 11], [11])])
def cmpL.B5 : List Nat := [0, 1, 0, 7, 15, 31, 63, 127, 63, 511, 1023, 2047, 4095]
theorem cmpL.tab5 : rtab .any (opsOf Try.f5 5) = cmpL.T5 := by kernel_rfl
theorem cmpL.bits5 : waitsOk cmpL.T5.2 cmpL.B5 = true := by kernel_rfl
def cmpL.T11 : Bool × List (List Nat × List Nat) := (true, [([], []), ([0], [0]), ([1], [1]), ([2], [2]), ([3, 2, 2], [2, 3]), ([2], [2]), ([5, 4, 2], [2, 5]), ([4, 6, 2], [2, 4, 6]), ([2, 7], [2, 7])])
def cmpL.B11 : List Nat := [0, 1, 3, 7, 15, 7, 63, 127, 255]
theorem cmpL.tab11 : rtab .any (opsOf Try.f5 11) = cmpL.T11 := by kernel_rfl
theorem cmpL.bits11 : waitsOk cmpL.T11.2 cmpL.B11 = true := by kernel_rfl
def cmpL.T15 : Bool × List (List Nat × List Nat) := (true, [([], []), ([], []), ([0, 1], [0, 1]), ([2], [2]), ([3], [3]), ([4, 3, 3], [3, 4]), ([3], [3]), ([6, 5, 3], [3, 6]), ([7, 7, 3], [3, 7]), ([8], [8]), ([9, 8, 8], [8, 9]), ([8, 10, 3], [3, 8, 10]), ([5, 11, 3], [3, 5, 11]), ([3, 12], [3, 12]), ([13, 10, 0, 1, 2, 3, 4, 5, 6, 7, 8, 9, 10, 11, 12, 13], [13])])
def cmpL.B15 : List Nat := [0, 0, 3, 7, 15, 31, 15, 127, 255, 511, 1023, 2047, 4095, 8191, 16383]
theorem cmpL.tab15 : rtab .any (opsOf Try.f5 15) = cmpL.T15 := by kernel_rfl
theorem cmpL.bits15 : waitsOk cmpL.T15.2 cmpL.B15 = true := by kernel_rfl
set_option maxHeartbeats 8000000 in
set_option maxRecDepth 100000 in
theorem wR11 (A0 : Option Addr) (c0 : Nat) (l0 : List Int) (k : Nat) (op k1 n1 r1 k2 n2 r2 : Int) (t1 t2 : ByteArray) (w : World) (hr0 : Kd.C (Kd.int .u8) w A0 l0.length l0) (hc0 : l0.length ≤ c0) (hbig : laws_big.f l0 = some false)
    (hd : spec_DrawDoBinary.f k l0 = some (op, k1, n1, t1, r1, k2, n2, t2, r2)) (hn1 : 0 ≤ n1 ∧ n1 < 18446744073709551616) (hn2 : 0 ≤ n2 ∧ n2 < 18446744073709551616) (hs1 : t1.size ≤ 1048576) (hs2 : t2.size ≤ 1048576) (hv1 : spec_ValueOk.f k1 n1 t1 r1 = some true) (hv2 : spec_ValueOk.f k2 n2 t2 r2 = some true) (HL : Aside0 (binV 6 k1 n1 t1 r1 k2 n2 t2 r2 = boolV true)) (HM : Aside0 (binV 7 k1 n1 t1 r1 k2 n2 t2 r2 = boolV true)) (HG : Aside0 (binV 8 k2 n2 t2 r2 k1 n1 t1 r1 = boolV true)) (HS : Aside0 (binV 10 k1 n1 t1 r1 k2 n2 t2 r2 = boolV true)) (HO : Aside0 (binV 11 k1 n1 t1 r1 k2 n2 t2 r2 = boolV false)) :
    Calls Try.prog 5 #[.slice A0 l0.length c0] w fun e w' => e = .returned (.bool true) ∧ Below w.heap.size w w' := by
  have HB := Aside0.mk hbig; have HD := Aside0.mk hd; have HA := Aside0.mk (And.intro (And.intro hn1 hn2) (And.intro hs1 hs2)); clear hbig hd hn1 hn2 hs1 hs2
  have hu := Try.underlying37
  have HR := Aside0.mk hr0; have HC := Aside0.mk hc0; clear hr0 hc0
  go_enter Try.func5, Try.ntmps5
  go_wp2_with fail
  refine (laws_big.calls A0 c0 l0 false _ HR.out HC.out HB.out).mono ?_; rintro e w1 ⟨rfl, hb1⟩
  have M1 := Aside0.mk ((Mem.start w).step hb1.below); clear hb1
  go_wp2_with fail
  refine (spec_DrawDoBinary.calls k A0 c0 l0 op k1 n1 t1 r1 k2 n2 t2 r2 _ (Kd.C_below HR.out M1.out.below) HC.out HD.out).mono ?_; rintro e w2 ⟨rfl, hb2⟩
  have M2 := Aside0.mk (M1.out.step (by first | exact hb2 | exact hb2.below)); clear hb2 M1
  go_wp2_with fail
  have HV1 := Aside0.mk hv1; have HV2 := Aside0.mk hv2; clear hv1 hv2
  have M3 := Aside0.mk ((M2.out.allocAt rfl #[.int .i64 k1, .int .u64 n1, .string t1, .int .i64 r1] 37).allocAt (g := w2.heap.size + 1) (by simp) #[.int .i64 k2, .int .u64 n2, .string t2, .int .i64 r2] 37); clear M2
  refine (spec_ValueOk.calls k1 n1 t1 r1 true _ HV1.out).mono ?_; rintro e w4 ⟨rfl, hb⟩
  have M4 := Aside0.mk (M3.out.step (by first | exact hb | exact hb.below)); clear hb M3
  have z1 := M4.out.box (.tail _ (.head _)); have z2 := M4.out.box (.head _)
  go_wp2_with fail
  refine (spec_ValueOk.calls k2 n2 t2 r2 true _ HV2.out).mono ?_; rintro e w5 ⟨rfl, hb⟩
  have M5 := Aside0.mk (M4.out.step (by first | exact hb | exact hb.below)); clear hb M4 z1 z2
  have z1 := M5.out.box (.tail _ (.head _)); have z2 := M5.out.box (.head _)
  go_wp2_with fail
  have C := fun W => doBinI 6 k1 n1 r1 k2 n2 r2 t1 t2 W HA.out.1.1 HA.out.1.2 HA.out.2.1 HA.out.2.2
  rw [HL.out] at C; dsimp only [boolV] at C; simp only [show bn true = 1 from rfl, show bn false = 0 from rfl] at C
  refine (C _).mono ?_; clear C; rintro e x6 ⟨rfl, hb⟩
  have M6 := Aside0.mk ((M5.out.step hb).allocAt rfl #[.int .i64 1, .int .u64 1, .string (⟨#[]⟩ : ByteArray), .int .i64 0] 37); clear hb M5 z1 z2
  have z1 := M6.out.box (.tail _ (.tail _ (.head _))); have z2 := M6.out.box (.tail _ (.head _))
  go_wp2_with fail
  have C := fun W => doBinI 7 k1 n1 r1 k2 n2 r2 t1 t2 W HA.out.1.1 HA.out.1.2 HA.out.2.1 HA.out.2.2
  rw [HM.out] at C; dsimp only [boolV] at C; simp only [show bn true = 1 from rfl, show bn false = 0 from rfl] at C
  refine (C _).mono ?_; clear C; rintro e x7 ⟨rfl, hb⟩
  have M7 := Aside0.mk ((M6.out.step hb).allocAt rfl #[.int .i64 1, .int .u64 1, .string (⟨#[]⟩ : ByteArray), .int .i64 0] 37); clear hb M6 z1 z2
  have z1 := M7.out.box (.tail _ (.tail _ (.tail _ (.head _)))); have z2 := M7.out.box (.tail _ (.tail _ (.head _)))
  go_wp2_with fail
  have C := fun W => doBinI 8 k2 n2 r2 k1 n1 r1 t2 t1 W HA.out.1.2 HA.out.1.1 HA.out.2.2 HA.out.2.1
  rw [HG.out] at C; dsimp only [boolV] at C; simp only [show bn true = 1 from rfl, show bn false = 0 from rfl] at C
  refine (C _).mono ?_; clear C; rintro e x8 ⟨rfl, hb⟩
  have M8 := Aside0.mk ((M7.out.step hb).allocAt rfl #[.int .i64 1, .int .u64 1, .string (⟨#[]⟩ : ByteArray), .int .i64 0] 37); clear hb M7 z1 z2
  have z1 := M8.out.box (.tail _ (.tail _ (.tail _ (.tail _ (.head _))))); have z2 := M8.out.box (.tail _ (.tail _ (.tail _ (.head _))))
  go_wp2_with fail
  have C := fun W => doBinI 10 k1 n1 r1 k2 n2 r2 t1 t2 W HA.out.1.1 HA.out.1.2 HA.out.2.1 HA.out.2.2
  rw [HS.out] at C; dsimp only [boolV] at C; simp only [show bn true = 1 from rfl, show bn false = 0 from rfl] at C
  refine (C _).mono ?_; clear C; rintro e x9 ⟨rfl, hb⟩
  have M9 := Aside0.mk ((M8.out.step hb).allocAt rfl #[.int .i64 1, .int .u64 1, .string (⟨#[]⟩ : ByteArray), .int .i64 0] 37); clear hb M8 z1 z2
  have z1 := M9.out.box (.tail _ (.tail _ (.tail _ (.tail _ (.tail _ (.head _)))))); have z2 := M9.out.box (.tail _ (.tail _ (.tail _ (.tail _ (.head _)))))
  go_wp2_with fail
  have C := fun W => doBinI 11 k1 n1 r1 k2 n2 r2 t1 t2 W HA.out.1.1 HA.out.1.2 HA.out.2.1 HA.out.2.2
  rw [HO.out] at C; dsimp only [boolV] at C; simp only [show bn true = 1 from rfl, show bn false = 0 from rfl] at C
  refine (C _).mono ?_; clear C; rintro e x10 ⟨rfl, hb⟩
  have M10 := Aside0.mk ((M9.out.step hb).allocAt rfl #[.int .i64 1, .int .u64 0, .string (⟨#[]⟩ : ByteArray), .int .i64 0] 37); clear hb M9 z1 z2
  have z1 := M10.out.box (.tail _ (.tail _ (.tail _ (.tail _ (.tail _ (.tail _ (.head _))))))); have z2 := M10.out.box (.tail _ (.tail _ (.tail _ (.tail _ (.tail _ (.head _))))))
  go_wp2_with fail
  clear z1 z2
  go_cut [82] (fun u wx => ∃ W : World, u = .bool false ∧ Aside0 (W = wx) ∧ Aside0 (Mem w W [Hold.box x10.heap.size #[.int .i64 1, .int .u64 0, .string (⟨#[]⟩ : ByteArray), .int .i64 0] 37, Hold.box x9.heap.size #[.int .i64 1, .int .u64 1, .string (⟨#[]⟩ : ByteArray), .int .i64 0] 37, Hold.box x8.heap.size #[.int .i64 1, .int .u64 1, .string (⟨#[]⟩ : ByteArray), .int .i64 0] 37, Hold.box x7.heap.size #[.int .i64 1, .int .u64 1, .string (⟨#[]⟩ : ByteArray), .int .i64 0] 37, Hold.box x6.heap.size #[.int .i64 1, .int .u64 1, .string (⟨#[]⟩ : ByteArray), .int .i64 0] 37, Hold.box (w2.heap.size + 1) #[.int .i64 k2, .int .u64 n2, .string t2, .int .i64 r2] 37, Hold.box w2.heap.size #[.int .i64 k1, .int .u64 n1, .string t1, .int .i64 r1] 37]))
  case first =>
    refine sz 9 (fun W => (∀ o, W.cell? ⟨x9.heap.size, o, none⟩ = (#[.int .i64 1, .int .u64 1, .string (⟨#[]⟩ : ByteArray), .int .i64 0] : Array Value)[o]?) ∧ (∀ o, W.cell? ⟨x10.heap.size, o, none⟩ = (#[.int .i64 1, .int .u64 0, .string (⟨#[]⟩ : ByteArray), .int .i64 0] : Array Value)[o]?)) [] cmpL.tab11 cmpL.bits11 ⟨M10.out.drew.box (.tail _ (.head _)), M10.out.drew.box (.head _)⟩ (fun HT_ HW_ hHeld => ?_)
    have MD := Aside0.mk M10.out.drew; clear M10
    generalize World.drew _ = wd at MD hHeld ⊢
    refine pz 0 74 ?_; refine pz 1 75 ?_; refine pz 2 76 ?_; refine tz 3 77 ?_; refine tz 5 79 ?_
    refine ez 4 (some 78) (fun K hK => ?_)
    refine gz Try.func24 #[.agg #[.int .i64 1, .int .u64 1, .string (⟨#[]⟩ : ByteArray), .int .i64 0]] ?_
    refine (impl_IsTrue.calls 100 1 1 (⟨#[]⟩ : ByteArray) 0 true _ (true_bool 100 true)).mono ?_; rintro e y1 ⟨rfl, hb⟩
    have MX1 := Aside0.mk (MD.out.step (by first | exact hb | exact hb.below)); clear hb MD
    refine ⟨_, rfl, ?_⟩
    refine hK.out _ _ ⟨MX1.out.box (.tail _ (.head _)), MX1.out.box (.head _)⟩ (fun hHeld => ?_); clear hK K; refine kz (some 78) ?_
    refine ez 6 (some 80) (fun K hK => ?_)
    refine gz Try.func24 #[.agg #[.int .i64 1, .int .u64 0, .string (⟨#[]⟩ : ByteArray), .int .i64 0]] ?_
    refine (impl_IsTrue.calls 100 1 0 (⟨#[]⟩ : ByteArray) 0 false _ (true_bool 100 false)).mono ?_; rintro e y2 ⟨rfl, hb⟩
    have MX2 := Aside0.mk (MX1.out.step (by first | exact hb | exact hb.below)); clear hb MX1
    refine ⟨_, rfl, ?_⟩
    refine hK.out _ _ ⟨MX2.out.box (.tail _ (.head _)), MX2.out.box (.head _)⟩ (fun hHeld => ?_); clear hK K; refine kz (some 80) ?_
    refine pz 7 81 ?_; refine pz 8 82 ?_
    refine dz ?_
    clear hHeld
    try go_wp2_with fail
    go_meet
    exact ⟨_, rfl, ⟨rfl⟩, MX2⟩
  case rest =>
  obtain ⟨W, rfl, HW, M11⟩ := hcut
  have hw3 := HW.out; subst hw3; clear HW M10
  go_upto_region 15 with fail
  refine sz 15 (fun W => (∀ o, W.cell? ⟨x6.heap.size, o, none⟩ = (#[.int .i64 1, .int .u64 1, .string (⟨#[]⟩ : ByteArray), .int .i64 0] : Array Value)[o]?) ∧ (∀ o, W.cell? ⟨x8.heap.size, o, none⟩ = (#[.int .i64 1, .int .u64 1, .string (⟨#[]⟩ : ByteArray), .int .i64 0] : Array Value)[o]?) ∧ (∀ o, W.cell? ⟨x7.heap.size, o, none⟩ = (#[.int .i64 1, .int .u64 1, .string (⟨#[]⟩ : ByteArray), .int .i64 0] : Array Value)[o]?) ∧ (∀ o, W.cell? ⟨x9.heap.size, o, none⟩ = (#[.int .i64 1, .int .u64 1, .string (⟨#[]⟩ : ByteArray), .int .i64 0] : Array Value)[o]?)) [] cmpL.tab15 cmpL.bits15 ⟨M11.out.drew.box (.tail _ (.tail _ (.tail _ (.tail _ (.head _))))), M11.out.drew.box (.tail _ (.tail _ (.head _))), M11.out.drew.box (.tail _ (.tail _ (.tail _ (.head _)))), M11.out.drew.box (.tail _ (.head _))⟩ (fun HT_ HW_ hHeld => ?_)
  have MD := Aside0.mk M11.out.drew; clear M11
  generalize World.drew _ = wd at MD hHeld ⊢
  refine tz 0 87 ?_; refine tz 1 88 ?_; refine pz 2 89 ?_; refine pz 3 90 ?_; refine tz 4 91 ?_; refine tz 6 93 ?_
  refine ez 5 (some 92) (fun K hK => ?_)
  refine gz Try.func24 #[.agg #[.int .i64 1, .int .u64 1, .string (⟨#[]⟩ : ByteArray), .int .i64 0]] ?_
  refine (impl_IsTrue.calls 100 1 1 (⟨#[]⟩ : ByteArray) 0 true _ (true_bool 100 true)).mono ?_; rintro e y1 ⟨rfl, hb⟩
  have MX1 := Aside0.mk (MD.out.step (by first | exact hb | exact hb.below)); clear hb MD
  refine ⟨_, rfl, ?_⟩
  refine hK.out _ _ ⟨MX1.out.box (.tail _ (.tail _ (.tail _ (.tail _ (.head _))))), MX1.out.box (.tail _ (.tail _ (.head _))), MX1.out.box (.tail _ (.tail _ (.tail _ (.head _)))), MX1.out.box (.tail _ (.head _))⟩ (fun hHeld => ?_); clear hK K; refine kz (some 92) ?_
  refine ez 7 (some 94) (fun K hK => ?_)
  refine gz Try.func24 #[.agg #[.int .i64 1, .int .u64 1, .string (⟨#[]⟩ : ByteArray), .int .i64 0]] ?_
  refine (impl_IsTrue.calls 100 1 1 (⟨#[]⟩ : ByteArray) 0 true _ (true_bool 100 true)).mono ?_; rintro e y2 ⟨rfl, hb⟩
  have MX2 := Aside0.mk (MX1.out.step (by first | exact hb | exact hb.below)); clear hb MX1
  refine ⟨_, rfl, ?_⟩
  refine hK.out _ _ ⟨MX2.out.box (.tail _ (.tail _ (.tail _ (.tail _ (.head _))))), MX2.out.box (.tail _ (.tail _ (.head _))), MX2.out.box (.tail _ (.tail _ (.tail _ (.head _)))), MX2.out.box (.tail _ (.head _))⟩ (fun hHeld => ?_); clear hK K; refine kz (some 94) ?_
  refine pz 8 95 ?_; refine oz 9 96 ?_; refine oz 10 97 ?_; refine pz 11 98 ?_; refine pz 12 99 ?_; refine pz 13 100 ?_; refine pz 14 2 ?_
  refine dz ?_
  clear hHeld
  go_wp2
  go_ret
  exact ⟨rfl, MX2.out.below⟩
set_option maxHeartbeats 8000000 in
set_option maxRecDepth 100000 in
theorem wR10 (A0 : Option Addr) (c0 : Nat) (l0 : List Int) (k : Nat) (op k1 n1 r1 k2 n2 r2 : Int) (t1 t2 : ByteArray) (w : World) (hr0 : Kd.C (Kd.int .u8) w A0 l0.length l0) (hc0 : l0.length ≤ c0) (hbig : laws_big.f l0 = some false)
    (hd : spec_DrawDoBinary.f k l0 = some (op, k1, n1, t1, r1, k2, n2, t2, r2)) (hn1 : 0 ≤ n1 ∧ n1 < 18446744073709551616) (hn2 : 0 ≤ n2 ∧ n2 < 18446744073709551616) (hs1 : t1.size ≤ 1048576) (hs2 : t2.size ≤ 1048576) (hv1 : spec_ValueOk.f k1 n1 t1 r1 = some true) (hv2 : spec_ValueOk.f k2 n2 t2 r2 = some true) (HL : Aside0 (binV 6 k1 n1 t1 r1 k2 n2 t2 r2 = boolV true)) (HM : Aside0 (binV 7 k1 n1 t1 r1 k2 n2 t2 r2 = boolV true)) (HG : Aside0 (binV 8 k2 n2 t2 r2 k1 n1 t1 r1 = boolV true)) (HS : Aside0 (binV 10 k1 n1 t1 r1 k2 n2 t2 r2 = boolV false)) (HO : Aside0 (binV 11 k1 n1 t1 r1 k2 n2 t2 r2 = boolV true)) :
    Calls Try.prog 5 #[.slice A0 l0.length c0] w fun e w' => e = .returned (.bool true) ∧ Below w.heap.size w w' := by
  have HB := Aside0.mk hbig; have HD := Aside0.mk hd; have HA := Aside0.mk (And.intro (And.intro hn1 hn2) (And.intro hs1 hs2)); clear hbig hd hn1 hn2 hs1 hs2
  have hu := Try.underlying37
  have HR := Aside0.mk hr0; have HC := Aside0.mk hc0; clear hr0 hc0
  go_enter Try.func5, Try.ntmps5
  go_wp2_with fail
  refine (laws_big.calls A0 c0 l0 false _ HR.out HC.out HB.out).mono ?_; rintro e w1 ⟨rfl, hb1⟩
  have M1 := Aside0.mk ((Mem.start w).step hb1.below); clear hb1
  go_wp2_with fail
  refine (spec_DrawDoBinary.calls k A0 c0 l0 op k1 n1 t1 r1 k2 n2 t2 r2 _ (Kd.C_below HR.out M1.out.below) HC.out HD.out).mono ?_; rintro e w2 ⟨rfl, hb2⟩
  have M2 := Aside0.mk (M1.out.step (by first | exact hb2 | exact hb2.below)); clear hb2 M1
  go_wp2_with fail
  have HV1 := Aside0.mk hv1; have HV2 := Aside0.mk hv2; clear hv1 hv2
  have M3 := Aside0.mk ((M2.out.allocAt rfl #[.int .i64 k1, .int .u64 n1, .string t1, .int .i64 r1] 37).allocAt (g := w2.heap.size + 1) (by simp) #[.int .i64 k2, .int .u64 n2, .string t2, .int .i64 r2] 37); clear M2
  refine (spec_ValueOk.calls k1 n1 t1 r1 true _ HV1.out).mono ?_; rintro e w4 ⟨rfl, hb⟩
  have M4 := Aside0.mk (M3.out.step (by first | exact hb | exact hb.below)); clear hb M3
  have z1 := M4.out.box (.tail _ (.head _)); have z2 := M4.out.box (.head _)
  go_wp2_with fail
  refine (spec_ValueOk.calls k2 n2 t2 r2 true _ HV2.out).mono ?_; rintro e w5 ⟨rfl, hb⟩
  have M5 := Aside0.mk (M4.out.step (by first | exact hb | exact hb.below)); clear hb M4 z1 z2
  have z1 := M5.out.box (.tail _ (.head _)); have z2 := M5.out.box (.head _)
  go_wp2_with fail
  have C := fun W => doBinI 6 k1 n1 r1 k2 n2 r2 t1 t2 W HA.out.1.1 HA.out.1.2 HA.out.2.1 HA.out.2.2
  rw [HL.out] at C; dsimp only [boolV] at C; simp only [show bn true = 1 from rfl, show bn false = 0 from rfl] at C
  refine (C _).mono ?_; clear C; rintro e x6 ⟨rfl, hb⟩
  have M6 := Aside0.mk ((M5.out.step hb).allocAt rfl #[.int .i64 1, .int .u64 1, .string (⟨#[]⟩ : ByteArray), .int .i64 0] 37); clear hb M5 z1 z2
  have z1 := M6.out.box (.tail _ (.tail _ (.head _))); have z2 := M6.out.box (.tail _ (.head _))
  go_wp2_with fail
  have C := fun W => doBinI 7 k1 n1 r1 k2 n2 r2 t1 t2 W HA.out.1.1 HA.out.1.2 HA.out.2.1 HA.out.2.2
  rw [HM.out] at C; dsimp only [boolV] at C; simp only [show bn true = 1 from rfl, show bn false = 0 from rfl] at C
  refine (C _).mono ?_; clear C; rintro e x7 ⟨rfl, hb⟩
  have M7 := Aside0.mk ((M6.out.step hb).allocAt rfl #[.int .i64 1, .int .u64 1, .string (⟨#[]⟩ : ByteArray), .int .i64 0] 37); clear hb M6 z1 z2
  have z1 := M7.out.box (.tail _ (.tail _ (.tail _ (.head _)))); have z2 := M7.out.box (.tail _ (.tail _ (.head _)))
  go_wp2_with fail
  have C := fun W => doBinI 8 k2 n2 r2 k1 n1 r1 t2 t1 W HA.out.1.2 HA.out.1.1 HA.out.2.2 HA.out.2.1
  rw [HG.out] at C; dsimp only [boolV] at C; simp only [show bn true = 1 from rfl, show bn false = 0 from rfl] at C
  refine (C _).mono ?_; clear C; rintro e x8 ⟨rfl, hb⟩
  have M8 := Aside0.mk ((M7.out.step hb).allocAt rfl #[.int .i64 1, .int .u64 1, .string (⟨#[]⟩ : ByteArray), .int .i64 0] 37); clear hb M7 z1 z2
  have z1 := M8.out.box (.tail _ (.tail _ (.tail _ (.tail _ (.head _))))); have z2 := M8.out.box (.tail _ (.tail _ (.tail _ (.head _))))
  go_wp2_with fail
  have C := fun W => doBinI 10 k1 n1 r1 k2 n2 r2 t1 t2 W HA.out.1.1 HA.out.1.2 HA.out.2.1 HA.out.2.2
  rw [HS.out] at C; dsimp only [boolV] at C; simp only [show bn true = 1 from rfl, show bn false = 0 from rfl] at C
  refine (C _).mono ?_; clear C; rintro e x9 ⟨rfl, hb⟩
  have M9 := Aside0.mk ((M8.out.step hb).allocAt rfl #[.int .i64 1, .int .u64 0, .string (⟨#[]⟩ : ByteArray), .int .i64 0] 37); clear hb M8 z1 z2
  have z1 := M9.out.box (.tail _ (.tail _ (.tail _ (.tail _ (.tail _ (.head _)))))); have z2 := M9.out.box (.tail _ (.tail _ (.tail _ (.tail _ (.head _)))))
  go_wp2_with fail
  have C := fun W => doBinI 11 k1 n1 r1 k2 n2 r2 t1 t2 W HA.out.1.1 HA.out.1.2 HA.out.2.1 HA.out.2.2
  rw [HO.out] at C; dsimp only [boolV] at C; simp only [show bn true = 1 from rfl, show bn false = 0 from rfl] at C
  refine (C _).mono ?_; clear C; rintro e x10 ⟨rfl, hb⟩
  have M10 := Aside0.mk ((M9.out.step hb).allocAt rfl #[.int .i64 1, .int .u64 1, .string (⟨#[]⟩ : ByteArray), .int .i64 0] 37); clear hb M9 z1 z2
  have z1 := M10.out.box (.tail _ (.tail _ (.tail _ (.tail _ (.tail _ (.tail _ (.head _))))))); have z2 := M10.out.box (.tail _ (.tail _ (.tail _ (.tail _ (.tail _ (.head _))))))
  go_wp2_with fail
  clear z1 z2
  go_cut [82] (fun u wx => ∃ W : World, u = .bool false ∧ Aside0 (W = wx) ∧ Aside0 (Mem w W [Hold.box x10.heap.size #[.int .i64 1, .int .u64 1, .string (⟨#[]⟩ : ByteArray), .int .i64 0] 37, Hold.box x9.heap.size #[.int .i64 1, .int .u64 0, .string (⟨#[]⟩ : ByteArray), .int .i64 0] 37, Hold.box x8.heap.size #[.int .i64 1, .int .u64 1, .string (⟨#[]⟩ : ByteArray), .int .i64 0] 37, Hold.box x7.heap.size #[.int .i64 1, .int .u64 1, .string (⟨#[]⟩ : ByteArray), .int .i64 0] 37, Hold.box x6.heap.size #[.int .i64 1, .int .u64 1, .string (⟨#[]⟩ : ByteArray), .int .i64 0] 37, Hold.box (w2.heap.size + 1) #[.int .i64 k2, .int .u64 n2, .string t2, .int .i64 r2] 37, Hold.box w2.heap.size #[.int .i64 k1, .int .u64 n1, .string t1, .int .i64 r1] 37]))
  case first =>
    refine sz 9 (fun W => (∀ o, W.cell? ⟨x9.heap.size, o, none⟩ = (#[.int .i64 1, .int .u64 0, .string (⟨#[]⟩ : ByteArray), .int .i64 0] : Array Value)[o]?) ∧ (∀ o, W.cell? ⟨x10.heap.size, o, none⟩ = (#[.int .i64 1, .int .u64 1, .string (⟨#[]⟩ : ByteArray), .int .i64 0] : Array Value)[o]?)) [] cmpL.tab11 cmpL.bits11 ⟨M10.out.drew.box (.tail _ (.head _)), M10.out.drew.box (.head _)⟩ (fun HT_ HW_ hHeld => ?_)
    have MD := Aside0.mk M10.out.drew; clear M10
    generalize World.drew _ = wd at MD hHeld ⊢
    refine pz 0 74 ?_; refine pz 1 75 ?_; refine pz 2 76 ?_; refine tz 3 77 ?_; refine tz 5 79 ?_
    refine ez 4 (some 78) (fun K hK => ?_)
    refine gz Try.func24 #[.agg #[.int .i64 1, .int .u64 0, .string (⟨#[]⟩ : ByteArray), .int .i64 0]] ?_
    refine (impl_IsTrue.calls 100 1 0 (⟨#[]⟩ : ByteArray) 0 false _ (true_bool 100 false)).mono ?_; rintro e y1 ⟨rfl, hb⟩
    have MX1 := Aside0.mk (MD.out.step (by first | exact hb | exact hb.below)); clear hb MD
    refine ⟨_, rfl, ?_⟩
    refine hK.out _ _ ⟨MX1.out.box (.tail _ (.head _)), MX1.out.box (.head _)⟩ (fun hHeld => ?_); clear hK K; refine kz (some 78) ?_
    refine ez 6 (some 80) (fun K hK => ?_)
    refine gz Try.func24 #[.agg #[.int .i64 1, .int .u64 1, .string (⟨#[]⟩ : ByteArray), .int .i64 0]] ?_
    refine (impl_IsTrue.calls 100 1 1 (⟨#[]⟩ : ByteArray) 0 true _ (true_bool 100 true)).mono ?_; rintro e y2 ⟨rfl, hb⟩
    have MX2 := Aside0.mk (MX1.out.step (by first | exact hb | exact hb.below)); clear hb MX1
    refine ⟨_, rfl, ?_⟩
    refine hK.out _ _ ⟨MX2.out.box (.tail _ (.head _)), MX2.out.box (.head _)⟩ (fun hHeld => ?_); clear hK K; refine kz (some 80) ?_
    refine pz 7 81 ?_; refine pz 8 82 ?_
    refine dz ?_
    clear hHeld
    try go_wp2_with fail
    go_meet
    exact ⟨_, rfl, ⟨rfl⟩, MX2⟩
  case rest =>
  obtain ⟨W, rfl, HW, M11⟩ := hcut
  have hw3 := HW.out; subst hw3; clear HW M10
  go_upto_region 15 with fail
  refine sz 15 (fun W => (∀ o, W.cell? ⟨x6.heap.size, o, none⟩ = (#[.int .i64 1, .int .u64 1, .string (⟨#[]⟩ : ByteArray), .int .i64 0] : Array Value)[o]?) ∧ (∀ o, W.cell? ⟨x8.heap.size, o, none⟩ = (#[.int .i64 1, .int .u64 1, .string (⟨#[]⟩ : ByteArray), .int .i64 0] : Array Value)[o]?) ∧ (∀ o, W.cell? ⟨x7.heap.size, o, none⟩ = (#[.int .i64 1, .int .u64 1, .string (⟨#[]⟩ : ByteArray), .int .i64 0] : Array Value)[o]?) ∧ (∀ o, W.cell? ⟨x9.heap.size, o, none⟩ = (#[.int .i64 1, .int .u64 0, .string (⟨#[]⟩ : ByteArray), .int .i64 0] : Array Value)[o]?)) [] cmpL.tab15 cmpL.bits15 ⟨M11.out.drew.box (.tail _ (.tail _ (.tail _ (.tail _ (.head _))))), M11.out.drew.box (.tail _ (.tail _ (.head _))), M11.out.drew.box (.tail _ (.tail _ (.tail _ (.head _)))), M11.out.drew.box (.tail _ (.head _))⟩ (fun HT_ HW_ hHeld => ?_)
  have MD := Aside0.mk M11.out.drew; clear M11
  generalize World.drew _ = wd at MD hHeld ⊢
  refine tz 0 87 ?_; refine tz 1 88 ?_; refine pz 2 89 ?_; refine pz 3 90 ?_; refine tz 4 91 ?_; refine tz 6 93 ?_
  refine ez 5 (some 92) (fun K hK => ?_)
  refine gz Try.func24 #[.agg #[.int .i64 1, .int .u64 1, .string (⟨#[]⟩ : ByteArray), .int .i64 0]] ?_
  refine (impl_IsTrue.calls 100 1 1 (⟨#[]⟩ : ByteArray) 0 true _ (true_bool 100 true)).mono ?_; rintro e y1 ⟨rfl, hb⟩
  have MX1 := Aside0.mk (MD.out.step (by first | exact hb | exact hb.below)); clear hb MD
  refine ⟨_, rfl, ?_⟩
  refine hK.out _ _ ⟨MX1.out.box (.tail _ (.tail _ (.tail _ (.tail _ (.head _))))), MX1.out.box (.tail _ (.tail _ (.head _))), MX1.out.box (.tail _ (.tail _ (.tail _ (.head _)))), MX1.out.box (.tail _ (.head _))⟩ (fun hHeld => ?_); clear hK K; refine kz (some 92) ?_
  refine ez 7 (some 94) (fun K hK => ?_)
  refine gz Try.func24 #[.agg #[.int .i64 1, .int .u64 1, .string (⟨#[]⟩ : ByteArray), .int .i64 0]] ?_
  refine (impl_IsTrue.calls 100 1 1 (⟨#[]⟩ : ByteArray) 0 true _ (true_bool 100 true)).mono ?_; rintro e y2 ⟨rfl, hb⟩
  have MX2 := Aside0.mk (MX1.out.step (by first | exact hb | exact hb.below)); clear hb MX1
  refine ⟨_, rfl, ?_⟩
  refine hK.out _ _ ⟨MX2.out.box (.tail _ (.tail _ (.tail _ (.tail _ (.head _))))), MX2.out.box (.tail _ (.tail _ (.head _))), MX2.out.box (.tail _ (.tail _ (.tail _ (.head _)))), MX2.out.box (.tail _ (.head _))⟩ (fun hHeld => ?_); clear hK K; refine kz (some 94) ?_
  refine pz 8 95 ?_; refine oz 9 96 ?_; refine oz 10 97 ?_; refine pz 11 98 ?_; refine pz 12 99 ?_; refine pz 13 100 ?_; refine pz 14 2 ?_
  refine dz ?_
  clear hHeld
  go_wp2
  go_ret
  exact ⟨rfl, MX2.out.below⟩
set_option maxHeartbeats 8000000 in
set_option maxRecDepth 100000 in
theorem wR01 (A0 : Option Addr) (c0 : Nat) (l0 : List Int) (k : Nat) (op k1 n1 r1 k2 n2 r2 : Int) (t1 t2 : ByteArray) (w : World) (hr0 : Kd.C (Kd.int .u8) w A0 l0.length l0) (hc0 : l0.length ≤ c0) (hbig : laws_big.f l0 = some false)
    (hd : spec_DrawDoBinary.f k l0 = some (op, k1, n1, t1, r1, k2, n2, t2, r2)) (hn1 : 0 ≤ n1 ∧ n1 < 18446744073709551616) (hn2 : 0 ≤ n2 ∧ n2 < 18446744073709551616) (hs1 : t1.size ≤ 1048576) (hs2 : t2.size ≤ 1048576) (hv1 : spec_ValueOk.f k1 n1 t1 r1 = some true) (hv2 : spec_ValueOk.f k2 n2 t2 r2 = some true) (HL : Aside0 (binV 6 k1 n1 t1 r1 k2 n2 t2 r2 = boolV false)) (HM : Aside0 (binV 7 k1 n1 t1 r1 k2 n2 t2 r2 = boolV true)) (HG : Aside0 (binV 8 k2 n2 t2 r2 k1 n1 t1 r1 = boolV false)) (HS : Aside0 (binV 10 k1 n1 t1 r1 k2 n2 t2 r2 = boolV true)) (HO : Aside0 (binV 11 k1 n1 t1 r1 k2 n2 t2 r2 = boolV false)) :
    Calls Try.prog 5 #[.slice A0 l0.length c0] w fun e w' => e = .returned (.bool true) ∧ Below w.heap.size w w' := by
  have HB := Aside0.mk hbig; have HD := Aside0.mk hd; have HA := Aside0.mk (And.intro (And.intro hn1 hn2) (And.intro hs1 hs2)); clear hbig hd hn1 hn2 hs1 hs2
  have hu := Try.underlying37
  have HR := Aside0.mk hr0; have HC := Aside0.mk hc0; clear hr0 hc0
  go_enter Try.func5, Try.ntmps5
  go_wp2_with fail
  refine (laws_big.calls A0 c0 l0 false _ HR.out HC.out HB.out).mono ?_; rintro e w1 ⟨rfl, hb1⟩
  have M1 := Aside0.mk ((Mem.start w).step hb1.below); clear hb1
  go_wp2_with fail
  refine (spec_DrawDoBinary.calls k A0 c0 l0 op k1 n1 t1 r1 k2 n2 t2 r2 _ (Kd.C_below HR.out M1.out.below) HC.out HD.out).mono ?_; rintro e w2 ⟨rfl, hb2⟩
  have M2 := Aside0.mk (M1.out.step (by first | exact hb2 | exact hb2.below)); clear hb2 M1
  go_wp2_with fail
  have HV1 := Aside0.mk hv1; have HV2 := Aside0.mk hv2; clear hv1 hv2
  have M3 := Aside0.mk ((M2.out.allocAt rfl #[.int .i64 k1, .int .u64 n1, .string t1, .int .i64 r1] 37).allocAt (g := w2.heap.size + 1) (by simp) #[.int .i64 k2, .int .u64 n2, .string t2, .int .i64 r2] 37); clear M2
  refine (spec_ValueOk.calls k1 n1 t1 r1 true _ HV1.out).mono ?_; rintro e w4 ⟨rfl, hb⟩
  have M4 := Aside0.mk (M3.out.step (by first | exact hb | exact hb.below)); clear hb M3
  have z1 := M4.out.box (.tail _ (.head _)); have z2 := M4.out.box (.head _)
  go_wp2_with fail
  refine (spec_ValueOk.calls k2 n2 t2 r2 true _ HV2.out).mono ?_; rintro e w5 ⟨rfl, hb⟩
  have M5 := Aside0.mk (M4.out.step (by first | exact hb | exact hb.below)); clear hb M4 z1 z2
  have z1 := M5.out.box (.tail _ (.head _)); have z2 := M5.out.box (.head _)
  go_wp2_with fail
  have C := fun W => doBinI 6 k1 n1 r1 k2 n2 r2 t1 t2 W HA.out.1.1 HA.out.1.2 HA.out.2.1 HA.out.2.2
  rw [HL.out] at C; dsimp only [boolV] at C; simp only [show bn true = 1 from rfl, show bn false = 0 from rfl] at C
  refine (C _).mono ?_; clear C; rintro e x6 ⟨rfl, hb⟩
  have M6 := Aside0.mk ((M5.out.step hb).allocAt rfl #[.int .i64 1, .int .u64 0, .string (⟨#[]⟩ : ByteArray), .int .i64 0] 37); clear hb M5 z1 z2
  have z1 := M6.out.box (.tail _ (.tail _ (.head _))); have z2 := M6.out.box (.tail _ (.head _))
  go_wp2_with fail
  have C := fun W => doBinI 7 k1 n1 r1 k2 n2 r2 t1 t2 W HA.out.1.1 HA.out.1.2 HA.out.2.1 HA.out.2.2
  rw [HM.out] at C; dsimp only [boolV] at C; simp only [show bn true = 1 from rfl, show bn false = 0 from rfl] at C
  refine (C _).mono ?_; clear C; rintro e x7 ⟨rfl, hb⟩
  have M7 := Aside0.mk ((M6.out.step hb).allocAt rfl #[.int .i64 1, .int .u64 1, .string (⟨#[]⟩ : ByteArray), .int .i64 0] 37); clear hb M6 z1 z2
  have z1 := M7.out.box (.tail _ (.tail _ (.tail _ (.head _)))); have z2 := M7.out.box (.tail _ (.tail _ (.head _)))
  go_wp2_with fail
  have C := fun W => doBinI 8 k2 n2 r2 k1 n1 r1 t2 t1 W HA.out.1.2 HA.out.1.1 HA.out.2.2 HA.out.2.1
  rw [HG.out] at C; dsimp only [boolV] at C; simp only [show bn true = 1 from rfl, show bn false = 0 from rfl] at C
  refine (C _).mono ?_; clear C; rintro e x8 ⟨rfl, hb⟩
  have M8 := Aside0.mk ((M7.out.step hb).allocAt rfl #[.int .i64 1, .int .u64 0, .string (⟨#[]⟩ : ByteArray), .int .i64 0] 37); clear hb M7 z1 z2
  have z1 := M8.out.box (.tail _ (.tail _ (.tail _ (.tail _ (.head _))))); have z2 := M8.out.box (.tail _ (.tail _ (.tail _ (.head _))))
  go_wp2_with fail
  have C := fun W => doBinI 10 k1 n1 r1 k2 n2 r2 t1 t2 W HA.out.1.1 HA.out.1.2 HA.out.2.1 HA.out.2.2
  rw [HS.out] at C; dsimp only [boolV] at C; simp only [show bn true = 1 from rfl, show bn false = 0 from rfl] at C
  refine (C _).mono ?_; clear C; rintro e x9 ⟨rfl, hb⟩
  have M9 := Aside0.mk ((M8.out.step hb).allocAt rfl #[.int .i64 1, .int .u64 1, .string (⟨#[]⟩ : ByteArray), .int .i64 0] 37); clear hb M8 z1 z2
  have z1 := M9.out.box (.tail _ (.tail _ (.tail _ (.tail _ (.tail _ (.head _)))))); have z2 := M9.out.box (.tail _ (.tail _ (.tail _ (.tail _ (.head _)))))
  go_wp2_with fail
  have C := fun W => doBinI 11 k1 n1 r1 k2 n2 r2 t1 t2 W HA.out.1.1 HA.out.1.2 HA.out.2.1 HA.out.2.2
  rw [HO.out] at C; dsimp only [boolV] at C; simp only [show bn true = 1 from rfl, show bn false = 0 from rfl] at C
  refine (C _).mono ?_; clear C; rintro e x10 ⟨rfl, hb⟩
  have M10 := Aside0.mk ((M9.out.step hb).allocAt rfl #[.int .i64 1, .int .u64 0, .string (⟨#[]⟩ : ByteArray), .int .i64 0] 37); clear hb M9 z1 z2
  have z1 := M10.out.box (.tail _ (.tail _ (.tail _ (.tail _ (.tail _ (.tail _ (.head _))))))); have z2 := M10.out.box (.tail _ (.tail _ (.tail _ (.tail _ (.tail _ (.head _))))))
  go_wp2_with fail
  clear z1 z2
  go_cut [82] (fun u wx => ∃ W : World, u = .bool false ∧ Aside0 (W = wx) ∧ Aside0 (Mem w W [Hold.box x10.heap.size #[.int .i64 1, .int .u64 0, .string (⟨#[]⟩ : ByteArray), .int .i64 0] 37, Hold.box x9.heap.size #[.int .i64 1, .int .u64 1, .string (⟨#[]⟩ : ByteArray), .int .i64 0] 37, Hold.box x8.heap.size #[.int .i64 1, .int .u64 0, .string (⟨#[]⟩ : ByteArray), .int .i64 0] 37, Hold.box x7.heap.size #[.int .i64 1, .int .u64 1, .string (⟨#[]⟩ : ByteArray), .int .i64 0] 37, Hold.box x6.heap.size #[.int .i64 1, .int .u64 0, .string (⟨#[]⟩ : ByteArray), .int .i64 0] 37, Hold.box (w2.heap.size + 1) #[.int .i64 k2, .int .u64 n2, .string t2, .int .i64 r2] 37, Hold.box w2.heap.size #[.int .i64 k1, .int .u64 n1, .string t1, .int .i64 r1] 37]))
  case first =>
    refine sz 9 (fun W => (∀ o, W.cell? ⟨x9.heap.size, o, none⟩ = (#[.int .i64 1, .int .u64 1, .string (⟨#[]⟩ : ByteArray), .int .i64 0] : Array Value)[o]?) ∧ (∀ o, W.cell? ⟨x10.heap.size, o, none⟩ = (#[.int .i64 1, .int .u64 0, .string (⟨#[]⟩ : ByteArray), .int .i64 0] : Array Value)[o]?)) [] cmpL.tab11 cmpL.bits11 ⟨M10.out.drew.box (.tail _ (.head _)), M10.out.drew.box (.head _)⟩ (fun HT_ HW_ hHeld => ?_)
    have MD := Aside0.mk M10.out.drew; clear M10
    generalize World.drew _ = wd at MD hHeld ⊢
    refine pz 0 74 ?_; refine pz 1 75 ?_; refine pz 2 76 ?_; refine tz 3 77 ?_; refine tz 5 79 ?_
    refine ez 4 (some 78) (fun K hK => ?_)
    refine gz Try.func24 #[.agg #[.int .i64 1, .int .u64 1, .string (⟨#[]⟩ : ByteArray), .int .i64 0]] ?_
    refine (impl_IsTrue.calls 100 1 1 (⟨#[]⟩ : ByteArray) 0 true _ (true_bool 100 true)).mono ?_; rintro e y1 ⟨rfl, hb⟩
    have MX1 := Aside0.mk (MD.out.step (by first | exact hb | exact hb.below)); clear hb MD
    refine ⟨_, rfl, ?_⟩
    refine hK.out _ _ ⟨MX1.out.box (.tail _ (.head _)), MX1.out.box (.head _)⟩ (fun hHeld => ?_); clear hK K; refine kz (some 78) ?_
    refine ez 6 (some 80) (fun K hK => ?_)
    refine gz Try.func24 #[.agg #[.int .i64 1, .int .u64 0, .string (⟨#[]⟩ : ByteArray), .int .i64 0]] ?_
    refine (impl_IsTrue.calls 100 1 0 (⟨#[]⟩ : ByteArray) 0 false _ (true_bool 100 false)).mono ?_; rintro e y2 ⟨rfl, hb⟩
    have MX2 := Aside0.mk (MX1.out.step (by first | exact hb | exact hb.below)); clear hb MX1
    refine ⟨_, rfl, ?_⟩
    refine hK.out _ _ ⟨MX2.out.box (.tail _ (.head _)), MX2.out.box (.head _)⟩ (fun hHeld => ?_); clear hK K; refine kz (some 80) ?_
    refine pz 7 81 ?_; refine pz 8 82 ?_
    refine dz ?_
    clear hHeld
    try go_wp2_with fail
    go_meet
    exact ⟨_, rfl, ⟨rfl⟩, MX2⟩
  case rest =>
  obtain ⟨W, rfl, HW, M11⟩ := hcut
  have hw3 := HW.out; subst hw3; clear HW M10
  go_upto_region 15 with fail
  refine sz 15 (fun W => (∀ o, W.cell? ⟨x6.heap.size, o, none⟩ = (#[.int .i64 1, .int .u64 0, .string (⟨#[]⟩ : ByteArray), .int .i64 0] : Array Value)[o]?) ∧ (∀ o, W.cell? ⟨x8.heap.size, o, none⟩ = (#[.int .i64 1, .int .u64 0, .string (⟨#[]⟩ : ByteArray), .int .i64 0] : Array Value)[o]?) ∧ (∀ o, W.cell? ⟨x7.heap.size, o, none⟩ = (#[.int .i64 1, .int .u64 1, .string (⟨#[]⟩ : ByteArray), .int .i64 0] : Array Value)[o]?) ∧ (∀ o, W.cell? ⟨x9.heap.size, o, none⟩ = (#[.int .i64 1, .int .u64 1, .string (⟨#[]⟩ : ByteArray), .int .i64 0] : Array Value)[o]?)) [] cmpL.tab15 cmpL.bits15 ⟨M11.out.drew.box (.tail _ (.tail _ (.tail _ (.tail _ (.head _))))), M11.out.drew.box (.tail _ (.tail _ (.head _))), M11.out.drew.box (.tail _ (.tail _ (.tail _ (.head _)))), M11.out.drew.box (.tail _ (.head _))⟩ (fun HT_ HW_ hHeld => ?_)
  have MD := Aside0.mk M11.out.drew; clear M11
  generalize World.drew _ = wd at MD hHeld ⊢
  refine tz 0 87 ?_; refine tz 1 88 ?_; refine pz 2 89 ?_; refine pz 3 90 ?_; refine tz 4 91 ?_; refine tz 6 93 ?_
  refine ez 5 (some 92) (fun K hK => ?_)
  refine gz Try.func24 #[.agg #[.int .i64 1, .int .u64 1, .string (⟨#[]⟩ : ByteArray), .int .i64 0]] ?_
  refine (impl_IsTrue.calls 100 1 1 (⟨#[]⟩ : ByteArray) 0 true _ (true_bool 100 true)).mono ?_; rintro e y1 ⟨rfl, hb⟩
  have MX1 := Aside0.mk (MD.out.step (by first | exact hb | exact hb.below)); clear hb MD
  refine ⟨_, rfl, ?_⟩
  refine hK.out _ _ ⟨MX1.out.box (.tail _ (.tail _ (.tail _ (.tail _ (.head _))))), MX1.out.box (.tail _ (.tail _ (.head _))), MX1.out.box (.tail _ (.tail _ (.tail _ (.head _)))), MX1.out.box (.tail _ (.head _))⟩ (fun hHeld => ?_); clear hK K; refine kz (some 92) ?_
  refine ez 7 (some 94) (fun K hK => ?_)
  refine gz Try.func24 #[.agg #[.int .i64 1, .int .u64 0, .string (⟨#[]⟩ : ByteArray), .int .i64 0]] ?_
  refine (impl_IsTrue.calls 100 1 0 (⟨#[]⟩ : ByteArray) 0 false _ (true_bool 100 false)).mono ?_; rintro e y2 ⟨rfl, hb⟩
  have MX2 := Aside0.mk (MX1.out.step (by first | exact hb | exact hb.below)); clear hb MX1
  refine ⟨_, rfl, ?_⟩
  refine hK.out _ _ ⟨MX2.out.box (.tail _ (.tail _ (.tail _ (.tail _ (.head _))))), MX2.out.box (.tail _ (.tail _ (.head _))), MX2.out.box (.tail _ (.tail _ (.tail _ (.head _)))), MX2.out.box (.tail _ (.head _))⟩ (fun hHeld => ?_); clear hK K; refine kz (some 94) ?_
  refine pz 8 95 ?_; refine tz 9 96 ?_
  refine ez 10 (some 97) (fun K hK => ?_)
  refine gz Try.func24 #[.agg #[.int .i64 1, .int .u64 1, .string (⟨#[]⟩ : ByteArray), .int .i64 0]] ?_
  refine (impl_IsTrue.calls 100 1 1 (⟨#[]⟩ : ByteArray) 0 true _ (true_bool 100 true)).mono ?_; rintro e y3 ⟨rfl, hb⟩
  have MX3 := Aside0.mk (MX2.out.step (by first | exact hb | exact hb.below)); clear hb MX2
  refine ⟨_, rfl, ?_⟩
  refine hK.out _ _ ⟨MX3.out.box (.tail _ (.tail _ (.tail _ (.tail _ (.head _))))), MX3.out.box (.tail _ (.tail _ (.head _))), MX3.out.box (.tail _ (.tail _ (.tail _ (.head _)))), MX3.out.box (.tail _ (.head _))⟩ (fun hHeld => ?_); clear hK K; refine kz (some 97) ?_
  refine pz 11 98 ?_; refine pz 12 99 ?_; refine pz 13 100 ?_; refine pz 14 2 ?_
  refine dz ?_
  clear hHeld
  go_wp2
  go_ret
  exact ⟨rfl, MX3.out.below⟩
set_option maxHeartbeats 8000000 in
set_option maxRecDepth 100000 in
theorem wR00 (A0 : Option Addr) (c0 : Nat) (l0 : List Int) (k : Nat) (op k1 n1 r1 k2 n2 r2 : Int) (t1 t2 : ByteArray) (w : World) (hr0 : Kd.C (Kd.int .u8) w A0 l0.length l0) (hc0 : l0.length ≤ c0) (hbig : laws_big.f l0 = some false)
    (hd : spec_DrawDoBinary.f k l0 = some (op, k1, n1, t1, r1, k2, n2, t2, r2)) (hn1 : 0 ≤ n1 ∧ n1 < 18446744073709551616) (hn2 : 0 ≤ n2 ∧ n2 < 18446744073709551616) (hs1 : t1.size ≤ 1048576) (hs2 : t2.size ≤ 1048576) (hv1 : spec_ValueOk.f k1 n1 t1 r1 = some true) (hv2 : spec_ValueOk.f k2 n2 t2 r2 = some true) (HL : Aside0 (binV 6 k1 n1 t1 r1 k2 n2 t2 r2 = boolV false)) (HM : Aside0 (binV 7 k1 n1 t1 r1 k2 n2 t2 r2 = boolV false)) (HG : Aside0 (binV 8 k2 n2 t2 r2 k1 n1 t1 r1 = boolV false)) (HS : Aside0 (binV 10 k1 n1 t1 r1 k2 n2 t2 r2 = boolV false)) (HO : Aside0 (binV 11 k1 n1 t1 r1 k2 n2 t2 r2 = boolV true)) :
    Calls Try.prog 5 #[.slice A0 l0.length c0] w fun e w' => e = .returned (.bool true) ∧ Below w.heap.size w w' := by
  have HB := Aside0.mk hbig; have HD := Aside0.mk hd; have HA := Aside0.mk (And.intro (And.intro hn1 hn2) (And.intro hs1 hs2)); clear hbig hd hn1 hn2 hs1 hs2
  have hu := Try.underlying37
  have HR := Aside0.mk hr0; have HC := Aside0.mk hc0; clear hr0 hc0
  go_enter Try.func5, Try.ntmps5
  go_wp2_with fail
  refine (laws_big.calls A0 c0 l0 false _ HR.out HC.out HB.out).mono ?_; rintro e w1 ⟨rfl, hb1⟩
  have M1 := Aside0.mk ((Mem.start w).step hb1.below); clear hb1
  go_wp2_with fail
  refine (spec_DrawDoBinary.calls k A0 c0 l0 op k1 n1 t1 r1 k2 n2 t2 r2 _ (Kd.C_below HR.out M1.out.below) HC.out HD.out).mono ?_; rintro e w2 ⟨rfl, hb2⟩
  have M2 := Aside0.mk (M1.out.step (by first | exact hb2 | exact hb2.below)); clear hb2 M1
  go_wp2_with fail
  have HV1 := Aside0.mk hv1; have HV2 := Aside0.mk hv2; clear hv1 hv2
  have M3 := Aside0.mk ((M2.out.allocAt rfl #[.int .i64 k1, .int .u64 n1, .string t1, .int .i64 r1] 37).allocAt (g := w2.heap.size + 1) (by simp) #[.int .i64 k2, .int .u64 n2, .string t2, .int .i64 r2] 37); clear M2
  refine (spec_ValueOk.calls k1 n1 t1 r1 true _ HV1.out).mono ?_; rintro e w4 ⟨rfl, hb⟩
  have M4 := Aside0.mk (M3.out.step (by first | exact hb | exact hb.below)); clear hb M3
  have z1 := M4.out.box (.tail _ (.head _)); have z2 := M4.out.box (.head _)
  go_wp2_with fail
  refine (spec_ValueOk.calls k2 n2 t2 r2 true _ HV2.out).mono ?_; rintro e w5 ⟨rfl, hb⟩
  have M5 := Aside0.mk (M4.out.step (by first | exact hb | exact hb.below)); clear hb M4 z1 z2
  have z1 := M5.out.box (.tail _ (.head _)); have z2 := M5.out.box (.head _)
  go_wp2_with fail
  have C := fun W => doBinI 6 k1 n1 r1 k2 n2 r2 t1 t2 W HA.out.1.1 HA.out.1.2 HA.out.2.1 HA.out.2.2
  rw [HL.out] at C; dsimp only [boolV] at C; simp only [show bn true = 1 from rfl, show bn false = 0 from rfl] at C
  refine (C _).mono ?_; clear C; rintro e x6 ⟨rfl, hb⟩
  have M6 := Aside0.mk ((M5.out.step hb).allocAt rfl #[.int .i64 1, .int .u64 0, .string (⟨#[]⟩ : ByteArray), .int .i64 0] 37); clear hb M5 z1 z2
  have z1 := M6.out.box (.tail _ (.tail _ (.head _))); have z2 := M6.out.box (.tail _ (.head _))
  go_wp2_with fail
  have C := fun W => doBinI 7 k1 n1 r1 k2 n2 r2 t1 t2 W HA.out.1.1 HA.out.1.2 HA.out.2.1 HA.out.2.2
  rw [HM.out] at C; dsimp only [boolV] at C; simp only [show bn true = 1 from rfl, show bn false = 0 from rfl] at C
  refine (C _).mono ?_; clear C; rintro e x7 ⟨rfl, hb⟩
  have M7 := Aside0.mk ((M6.out.step hb).allocAt rfl #[.int .i64 1, .int .u64 0, .string (⟨#[]⟩ : ByteArray), .int .i64 0] 37); clear hb M6 z1 z2
  have z1 := M7.out.box (.tail _ (.tail _ (.tail _ (.head _)))); have z2 := M7.out.box (.tail _ (.tail _ (.head _)))
  go_wp2_with fail
  have C := fun W => doBinI 8 k2 n2 r2 k1 n1 r1 t2 t1 W HA.out.1.2 HA.out.1.1 HA.out.2.2 HA.out.2.1
  rw [HG.out] at C; dsimp only [boolV] at C; simp only [show bn true = 1 from rfl, show bn false = 0 from rfl] at C
  refine (C _).mono ?_; clear C; rintro e x8 ⟨rfl, hb⟩
  have M8 := Aside0.mk ((M7.out.step hb).allocAt rfl #[.int .i64 1, .int .u64 0, .string (⟨#[]⟩ : ByteArray), .int .i64 0] 37); clear hb M7 z1 z2
  have z1 := M8.out.box (.tail _ (.tail _ (.tail _ (.tail _ (.head _))))); have z2 := M8.out.box (.tail _ (.tail _ (.tail _ (.head _))))
  go_wp2_with fail
  have C := fun W => doBinI 10 k1 n1 r1 k2 n2 r2 t1 t2 W HA.out.1.1 HA.out.1.2 HA.out.2.1 HA.out.2.2
  rw [HS.out] at C; dsimp only [boolV] at C; simp only [show bn true = 1 from rfl, show bn false = 0 from rfl] at C
  refine (C _).mono ?_; clear C; rintro e x9 ⟨rfl, hb⟩
  have M9 := Aside0.mk ((M8.out.step hb).allocAt rfl #[.int .i64 1, .int .u64 0, .string (⟨#[]⟩ : ByteArray), .int .i64 0] 37); clear hb M8 z1 z2
  have z1 := M9.out.box (.tail _ (.tail _ (.tail _ (.tail _ (.tail _ (.head _)))))); have z2 := M9.out.box (.tail _ (.tail _ (.tail _ (.tail _ (.head _)))))
  go_wp2_with fail
  have C := fun W => doBinI 11 k1 n1 r1 k2 n2 r2 t1 t2 W HA.out.1.1 HA.out.1.2 HA.out.2.1 HA.out.2.2
  rw [HO.out] at C; dsimp only [boolV] at C; simp only [show bn true = 1 from rfl, show bn false = 0 from rfl] at C
  refine (C _).mono ?_; clear C; rintro e x10 ⟨rfl, hb⟩
  have M10 := Aside0.mk ((M9.out.step hb).allocAt rfl #[.int .i64 1, .int .u64 1, .string (⟨#[]⟩ : ByteArray), .int .i64 0] 37); clear hb M9 z1 z2
  have z1 := M10.out.box (.tail _ (.tail _ (.tail _ (.tail _ (.tail _ (.tail _ (.head _))))))); have z2 := M10.out.box (.tail _ (.tail _ (.tail _ (.tail _ (.tail _ (.head _))))))
  go_wp2_with fail
  clear z1 z2
  go_cut [82] (fun u wx => ∃ W : World, u = .bool false ∧ Aside0 (W = wx) ∧ Aside0 (Mem w W [Hold.box x10.heap.size #[.int .i64 1, .int .u64 1, .string (⟨#[]⟩ : ByteArray), .int .i64 0] 37, Hold.box x9.heap.size #[.int .i64 1, .int .u64 0, .string (⟨#[]⟩ : ByteArray), .int .i64 0] 37, Hold.box x8.heap.size #[.int .i64 1, .int .u64 0, .string (⟨#[]⟩ : ByteArray), .int .i64 0] 37, Hold.box x7.heap.size #[.int .i64 1, .int .u64 0, .string (⟨#[]⟩ : ByteArray), .int .i64 0] 37, Hold.box x6.heap.size #[.int .i64 1, .int .u64 0, .string (⟨#[]⟩ : ByteArray), .int .i64 0] 37, Hold.box (w2.heap.size + 1) #[.int .i64 k2, .int .u64 n2, .string t2, .int .i64 r2] 37, Hold.box w2.heap.size #[.int .i64 k1, .int .u64 n1, .string t1, .int .i64 r1] 37]))
  case first =>
    refine sz 9 (fun W => (∀ o, W.cell? ⟨x9.heap.size, o, none⟩ = (#[.int .i64 1, .int .u64 0, .string (⟨#[]⟩ : ByteArray), .int .i64 0] : Array Value)[o]?) ∧ (∀ o, W.cell? ⟨x10.heap.size, o, none⟩ = (#[.int .i64 1, .int .u64 1, .string (⟨#[]⟩ : ByteArray), .int .i64 0] : Array Value)[o]?)) [] cmpL.tab11 cmpL.bits11 ⟨M10.out.drew.box (.tail _ (.head _)), M10.out.drew.box (.head _)⟩ (fun HT_ HW_ hHeld => ?_)
    have MD := Aside0.mk M10.out.drew; clear M10
    generalize World.drew _ = wd at MD hHeld ⊢
    refine pz 0 74 ?_; refine pz 1 75 ?_; refine pz 2 76 ?_; refine tz 3 77 ?_; refine tz 5 79 ?_
    refine ez 4 (some 78) (fun K hK => ?_)
    refine gz Try.func24 #[.agg #[.int .i64 1, .int .u64 0, .string (⟨#[]⟩ : ByteArray), .int .i64 0]] ?_
    refine (impl_IsTrue.calls 100 1 0 (⟨#[]⟩ : ByteArray) 0 false _ (true_bool 100 false)).mono ?_; rintro e y1 ⟨rfl, hb⟩
    have MX1 := Aside0.mk (MD.out.step (by first | exact hb | exact hb.below)); clear hb MD
    refine ⟨_, rfl, ?_⟩
    refine hK.out _ _ ⟨MX1.out.box (.tail _ (.head _)), MX1.out.box (.head _)⟩ (fun hHeld => ?_); clear hK K; refine kz (some 78) ?_
    refine ez 6 (some 80) (fun K hK => ?_)
    refine gz Try.func24 #[.agg #[.int .i64 1, .int .u64 1, .string (⟨#[]⟩ : ByteArray), .int .i64 0]] ?_
    refine (impl_IsTrue.calls 100 1 1 (⟨#[]⟩ : ByteArray) 0 true _ (true_bool 100 true)).mono ?_; rintro e y2 ⟨rfl, hb⟩
    have MX2 := Aside0.mk (MX1.out.step (by first | exact hb | exact hb.below)); clear hb MX1
    refine ⟨_, rfl, ?_⟩
    refine hK.out _ _ ⟨MX2.out.box (.tail _ (.head _)), MX2.out.box (.head _)⟩ (fun hHeld => ?_); clear hK K; refine kz (some 80) ?_
    refine pz 7 81 ?_; refine pz 8 82 ?_
    refine dz ?_
    clear hHeld
    try go_wp2_with fail
    go_meet
    exact ⟨_, rfl, ⟨rfl⟩, MX2⟩
  case rest =>
  obtain ⟨W, rfl, HW, M11⟩ := hcut
  have hw3 := HW.out; subst hw3; clear HW M10
  go_upto_region 15 with fail
  refine sz 15 (fun W => (∀ o, W.cell? ⟨x6.heap.size, o, none⟩ = (#[.int .i64 1, .int .u64 0, .string (⟨#[]⟩ : ByteArray), .int .i64 0] : Array Value)[o]?) ∧ (∀ o, W.cell? ⟨x8.heap.size, o, none⟩ = (#[.int .i64 1, .int .u64 0, .string (⟨#[]⟩ : ByteArray), .int .i64 0] : Array Value)[o]?) ∧ (∀ o, W.cell? ⟨x7.heap.size, o, none⟩ = (#[.int .i64 1, .int .u64 0, .string (⟨#[]⟩ : ByteArray), .int .i64 0] : Array Value)[o]?) ∧ (∀ o, W.cell? ⟨x9.heap.size, o, none⟩ = (#[.int .i64 1, .int .u64 0, .string (⟨#[]⟩ : ByteArray), .int .i64 0] : Array Value)[o]?)) [] cmpL.tab15 cmpL.bits15 ⟨M11.out.drew.box (.tail _ (.tail _ (.tail _ (.tail _ (.head _))))), M11.out.drew.box (.tail _ (.tail _ (.head _))), M11.out.drew.box (.tail _ (.tail _ (.tail _ (.head _)))), M11.out.drew.box (.tail _ (.head _))⟩ (fun HT_ HW_ hHeld => ?_)
  have MD := Aside0.mk M11.out.drew; clear M11
  generalize World.drew _ = wd at MD hHeld ⊢
  refine tz 0 87 ?_; refine tz 1 88 ?_; refine pz 2 89 ?_; refine pz 3 90 ?_; refine tz 4 91 ?_; refine tz 6 93 ?_
  refine ez 5 (some 92) (fun K hK => ?_)
  refine gz Try.func24 #[.agg #[.int .i64 1, .int .u64 0, .string (⟨#[]⟩ : ByteArray), .int .i64 0]] ?_
  refine (impl_IsTrue.calls 100 1 0 (⟨#[]⟩ : ByteArray) 0 false _ (true_bool 100 false)).mono ?_; rintro e y1 ⟨rfl, hb⟩
  have MX1 := Aside0.mk (MD.out.step (by first | exact hb | exact hb.below)); clear hb MD
  refine ⟨_, rfl, ?_⟩
  refine hK.out _ _ ⟨MX1.out.box (.tail _ (.tail _ (.tail _ (.tail _ (.head _))))), MX1.out.box (.tail _ (.tail _ (.head _))), MX1.out.box (.tail _ (.tail _ (.tail _ (.head _)))), MX1.out.box (.tail _ (.head _))⟩ (fun hHeld => ?_); clear hK K; refine kz (some 92) ?_
  refine ez 7 (some 94) (fun K hK => ?_)
  refine gz Try.func24 #[.agg #[.int .i64 1, .int .u64 0, .string (⟨#[]⟩ : ByteArray), .int .i64 0]] ?_
  refine (impl_IsTrue.calls 100 1 0 (⟨#[]⟩ : ByteArray) 0 false _ (true_bool 100 false)).mono ?_; rintro e y2 ⟨rfl, hb⟩
  have MX2 := Aside0.mk (MX1.out.step (by first | exact hb | exact hb.below)); clear hb MX1
  refine ⟨_, rfl, ?_⟩
  refine hK.out _ _ ⟨MX2.out.box (.tail _ (.tail _ (.tail _ (.tail _ (.head _))))), MX2.out.box (.tail _ (.tail _ (.head _))), MX2.out.box (.tail _ (.tail _ (.tail _ (.head _)))), MX2.out.box (.tail _ (.head _))⟩ (fun hHeld => ?_); clear hK K; refine kz (some 94) ?_
  refine pz 8 95 ?_; refine tz 9 96 ?_
  refine ez 10 (some 97) (fun K hK => ?_)
  refine gz Try.func24 #[.agg #[.int .i64 1, .int .u64 0, .string (⟨#[]⟩ : ByteArray), .int .i64 0]] ?_
  refine (impl_IsTrue.calls 100 1 0 (⟨#[]⟩ : ByteArray) 0 false _ (true_bool 100 false)).mono ?_; rintro e y3 ⟨rfl, hb⟩
  have MX3 := Aside0.mk (MX2.out.step (by first | exact hb | exact hb.below)); clear hb MX2
  refine ⟨_, rfl, ?_⟩
  refine hK.out _ _ ⟨MX3.out.box (.tail _ (.tail _ (.tail _ (.tail _ (.head _))))), MX3.out.box (.tail _ (.tail _ (.head _))), MX3.out.box (.tail _ (.tail _ (.tail _ (.head _)))), MX3.out.box (.tail _ (.head _))⟩ (fun hHeld => ?_); clear hK K; refine kz (some 97) ?_
  refine pz 11 98 ?_; refine pz 12 99 ?_; refine pz 13 100 ?_; refine pz 14 2 ?_
  refine dz ?_
  clear hHeld
  go_wp2
  go_ret
  exact ⟨rfl, MX3.out.below⟩
set_option maxHeartbeats 8000000 in
set_option maxRecDepth 100000 in
theorem wT1 (A0 : Option Addr) (c0 : Nat) (l0 : List Int) (k : Nat) (op k1 n1 r1 k2 n2 r2 : Int) (t1 t2 : ByteArray) (w : World) (hr0 : Kd.C (Kd.int .u8) w A0 l0.length l0) (hc0 : l0.length ≤ c0) (hbig : laws_big.f l0 = some false)
    (hd : spec_DrawDoBinary.f k l0 = some (op, k1, n1, t1, r1, k2, n2, t2, r2)) (hn1 : 0 ≤ n1 ∧ n1 < 18446744073709551616) (hn2 : 0 ≤ n2 ∧ n2 < 18446744073709551616) (hs1 : t1.size ≤ 1048576) (hs2 : t2.size ≤ 1048576) (hv1 : spec_ValueOk.f k1 n1 t1 r1 = some true) (hv2 : spec_ValueOk.f k2 n2 t2 r2 = some true) (HL : Aside0 (binV 6 k1 n1 t1 r1 k2 n2 t2 r2 = typeV)) (HM : Aside0 (binV 7 k1 n1 t1 r1 k2 n2 t2 r2 = typeV)) (HG : Aside0 (binV 8 k2 n2 t2 r2 k1 n1 t1 r1 = typeV)) (HS : Aside0 (binV 10 k1 n1 t1 r1 k2 n2 t2 r2 = boolV true)) (HO : Aside0 (binV 11 k1 n1 t1 r1 k2 n2 t2 r2 = boolV false)) :
    Calls Try.prog 5 #[.slice A0 l0.length c0] w fun e w' => e = .returned (.bool true) ∧ Below w.heap.size w w' := by
  have HB := Aside0.mk hbig; have HD := Aside0.mk hd; have HA := Aside0.mk (And.intro (And.intro hn1 hn2) (And.intro hs1 hs2)); clear hbig hd hn1 hn2 hs1 hs2
  have hu := Try.underlying37
  have HR := Aside0.mk hr0; have HC := Aside0.mk hc0; clear hr0 hc0
  go_enter Try.func5, Try.ntmps5
  go_wp2_with fail
  refine (laws_big.calls A0 c0 l0 false _ HR.out HC.out HB.out).mono ?_; rintro e w1 ⟨rfl, hb1⟩
  have M1 := Aside0.mk ((Mem.start w).step hb1.below); clear hb1
  go_wp2_with fail
  refine (spec_DrawDoBinary.calls k A0 c0 l0 op k1 n1 t1 r1 k2 n2 t2 r2 _ (Kd.C_below HR.out M1.out.below) HC.out HD.out).mono ?_; rintro e w2 ⟨rfl, hb2⟩
  have M2 := Aside0.mk (M1.out.step (by first | exact hb2 | exact hb2.below)); clear hb2 M1
  go_wp2_with fail
  have HV1 := Aside0.mk hv1; have HV2 := Aside0.mk hv2; clear hv1 hv2
  have M3 := Aside0.mk ((M2.out.allocAt rfl #[.int .i64 k1, .int .u64 n1, .string t1, .int .i64 r1] 37).allocAt (g := w2.heap.size + 1) (by simp) #[.int .i64 k2, .int .u64 n2, .string t2, .int .i64 r2] 37); clear M2
  refine (spec_ValueOk.calls k1 n1 t1 r1 true _ HV1.out).mono ?_; rintro e w4 ⟨rfl, hb⟩
  have M4 := Aside0.mk (M3.out.step (by first | exact hb | exact hb.below)); clear hb M3
  have z1 := M4.out.box (.tail _ (.head _)); have z2 := M4.out.box (.head _)
  go_wp2_with fail
  refine (spec_ValueOk.calls k2 n2 t2 r2 true _ HV2.out).mono ?_; rintro e w5 ⟨rfl, hb⟩
  have M5 := Aside0.mk (M4.out.step (by first | exact hb | exact hb.below)); clear hb M4 z1 z2
  have z1 := M5.out.box (.tail _ (.head _)); have z2 := M5.out.box (.head _)
  go_wp2_with fail
  have C := fun W => doBinI 6 k1 n1 r1 k2 n2 r2 t1 t2 W HA.out.1.1 HA.out.1.2 HA.out.2.1 HA.out.2.2
  rw [HL.out] at C; dsimp only [boolV, typeV] at C; try simp only [show bn true = 1 from rfl, show bn false = 0 from rfl] at C
  refine (C _).mono ?_; clear C; rintro e x6 ⟨rfl, hb⟩
  have M6 := Aside0.mk ((M5.out.step hb).allocAt rfl #[.int .i64 0, .int .u64 0, .string (⟨#[]⟩ : ByteArray), .int .i64 0] 37); clear hb M5 z1 z2
  have z1 := M6.out.box (.tail _ (.tail _ (.head _))); have z2 := M6.out.box (.tail _ (.head _))
  go_wp2_with fail
  have C := fun W => doBinI 7 k1 n1 r1 k2 n2 r2 t1 t2 W HA.out.1.1 HA.out.1.2 HA.out.2.1 HA.out.2.2
  rw [HM.out] at C; dsimp only [boolV, typeV] at C; try simp only [show bn true = 1 from rfl, show bn false = 0 from rfl] at C
  refine (C _).mono ?_; clear C; rintro e x7 ⟨rfl, hb⟩
  have M7 := Aside0.mk ((M6.out.step hb).allocAt rfl #[.int .i64 0, .int .u64 0, .string (⟨#[]⟩ : ByteArray), .int .i64 0] 37); clear hb M6 z1 z2
  have z1 := M7.out.box (.tail _ (.tail _ (.tail _ (.head _)))); have z2 := M7.out.box (.tail _ (.tail _ (.head _)))
  go_wp2_with fail
  have C := fun W => doBinI 8 k2 n2 r2 k1 n1 r1 t2 t1 W HA.out.1.2 HA.out.1.1 HA.out.2.2 HA.out.2.1
  rw [HG.out] at C; dsimp only [boolV, typeV] at C; try simp only [show bn true = 1 from rfl, show bn false = 0 from rfl] at C
  refine (C _).mono ?_; clear C; rintro e x8 ⟨rfl, hb⟩
  have M8 := Aside0.mk ((M7.out.step hb).allocAt rfl #[.int .i64 0, .int .u64 0, .string (⟨#[]⟩ : ByteArray), .int .i64 0] 37); clear hb M7 z1 z2
  have z1 := M8.out.box (.tail _ (.tail _ (.tail _ (.tail _ (.head _))))); have z2 := M8.out.box (.tail _ (.tail _ (.tail _ (.head _))))
  go_wp2_with fail
  have C := fun W => doBinI 10 k1 n1 r1 k2 n2 r2 t1 t2 W HA.out.1.1 HA.out.1.2 HA.out.2.1 HA.out.2.2
  rw [HS.out] at C; dsimp only [boolV, typeV] at C; try simp only [show bn true = 1 from rfl, show bn false = 0 from rfl] at C
  refine (C _).mono ?_; clear C; rintro e x9 ⟨rfl, hb⟩
  have M9 := Aside0.mk ((M8.out.step hb).allocAt rfl #[.int .i64 1, .int .u64 1, .string (⟨#[]⟩ : ByteArray), .int .i64 0] 37); clear hb M8 z1 z2
  have z1 := M9.out.box (.tail _ (.tail _ (.tail _ (.tail _ (.tail _ (.head _)))))); have z2 := M9.out.box (.tail _ (.tail _ (.tail _ (.tail _ (.head _)))))
  go_wp2_with fail
  have C := fun W => doBinI 11 k1 n1 r1 k2 n2 r2 t1 t2 W HA.out.1.1 HA.out.1.2 HA.out.2.1 HA.out.2.2
  rw [HO.out] at C; dsimp only [boolV, typeV] at C; try simp only [show bn true = 1 from rfl, show bn false = 0 from rfl] at C
  refine (C _).mono ?_; clear C; rintro e x10 ⟨rfl, hb⟩
  have M10 := Aside0.mk ((M9.out.step hb).allocAt rfl #[.int .i64 1, .int .u64 0, .string (⟨#[]⟩ : ByteArray), .int .i64 0] 37); clear hb M9 z1 z2
  have z1 := M10.out.box (.tail _ (.tail _ (.tail _ (.tail _ (.tail _ (.tail _ (.head _))))))); have z2 := M10.out.box (.tail _ (.tail _ (.tail _ (.tail _ (.tail _ (.head _))))))
  go_wp2_with fail
  clear z1 z2
  refine sz 9 (fun W => (∀ o, W.cell? ⟨x9.heap.size, o, none⟩ = (#[.int .i64 1, .int .u64 1, .string (⟨#[]⟩ : ByteArray), .int .i64 0] : Array Value)[o]?) ∧ (∀ o, W.cell? ⟨x10.heap.size, o, none⟩ = (#[.int .i64 1, .int .u64 0, .string (⟨#[]⟩ : ByteArray), .int .i64 0] : Array Value)[o]?)) [] cmpL.tab11 cmpL.bits11 ⟨M10.out.drew.box (.tail _ (.head _)), M10.out.drew.box (.head _)⟩ (fun HT_ HW_ hHeld => ?_)
  have MD := Aside0.mk M10.out.drew; clear M10
  generalize World.drew _ = wd at MD hHeld ⊢
  refine pz 0 74 ?_; refine pz 1 75 ?_; refine pz 2 76 ?_; refine tz 3 77 ?_; refine tz 5 79 ?_
  refine ez 4 (some 78) (fun K hK => ?_)
  refine gz Try.func24 #[.agg #[.int .i64 1, .int .u64 1, .string (⟨#[]⟩ : ByteArray), .int .i64 0]] ?_
  refine (impl_IsTrue.calls 100 1 1 (⟨#[]⟩ : ByteArray) 0 true _ (true_bool 100 true)).mono ?_; rintro e y1 ⟨rfl, hb⟩
  have MX1 := Aside0.mk (MD.out.step (by first | exact hb | exact hb.below)); clear hb MD
  refine ⟨_, rfl, ?_⟩
  refine hK.out _ _ ⟨MX1.out.box (.tail _ (.head _)), MX1.out.box (.head _)⟩ (fun hHeld => ?_); clear hK K; refine kz (some 78) ?_
  refine ez 6 (some 80) (fun K hK => ?_)
  refine gz Try.func24 #[.agg #[.int .i64 1, .int .u64 0, .string (⟨#[]⟩ : ByteArray), .int .i64 0]] ?_
  refine (impl_IsTrue.calls 100 1 0 (⟨#[]⟩ : ByteArray) 0 false _ (true_bool 100 false)).mono ?_; rintro e y2 ⟨rfl, hb⟩
  have MX2 := Aside0.mk (MX1.out.step (by first | exact hb | exact hb.below)); clear hb MX1
  refine ⟨_, rfl, ?_⟩
  refine hK.out _ _ ⟨MX2.out.box (.tail _ (.head _)), MX2.out.box (.head _)⟩ (fun hHeld => ?_); clear hK K; refine kz (some 80) ?_
  refine pz 7 81 ?_; refine pz 8 82 ?_
  refine dz ?_
  clear hHeld
  go_wp2
  go_ret
  exact ⟨rfl, MX2.out.below⟩
set_option maxHeartbeats 8000000 in
set_option maxRecDepth 100000 in
theorem wT0 (A0 : Option Addr) (c0 : Nat) (l0 : List Int) (k : Nat) (op k1 n1 r1 k2 n2 r2 : Int) (t1 t2 : ByteArray) (w : World) (hr0 : Kd.C (Kd.int .u8) w A0 l0.length l0) (hc0 : l0.length ≤ c0) (hbig : laws_big.f l0 = some false)
    (hd : spec_DrawDoBinary.f k l0 = some (op, k1, n1, t1, r1, k2, n2, t2, r2)) (hn1 : 0 ≤ n1 ∧ n1 < 18446744073709551616) (hn2 : 0 ≤ n2 ∧ n2 < 18446744073709551616) (hs1 : t1.size ≤ 1048576) (hs2 : t2.size ≤ 1048576) (hv1 : spec_ValueOk.f k1 n1 t1 r1 = some true) (hv2 : spec_ValueOk.f k2 n2 t2 r2 = some true) (HL : Aside0 (binV 6 k1 n1 t1 r1 k2 n2 t2 r2 = typeV)) (HM : Aside0 (binV 7 k1 n1 t1 r1 k2 n2 t2 r2 = typeV)) (HG : Aside0 (binV 8 k2 n2 t2 r2 k1 n1 t1 r1 = typeV)) (HS : Aside0 (binV 10 k1 n1 t1 r1 k2 n2 t2 r2 = boolV false)) (HO : Aside0 (binV 11 k1 n1 t1 r1 k2 n2 t2 r2 = boolV true)) :
    Calls Try.prog 5 #[.slice A0 l0.length c0] w fun e w' => e = .returned (.bool true) ∧ Below w.heap.size w w' := by
  have HB := Aside0.mk hbig; have HD := Aside0.mk hd; have HA := Aside0.mk (And.intro (And.intro hn1 hn2) (And.intro hs1 hs2)); clear hbig hd hn1 hn2 hs1 hs2
  have hu := Try.underlying37
  have HR := Aside0.mk hr0; have HC := Aside0.mk hc0; clear hr0 hc0
  go_enter Try.func5, Try.ntmps5
  go_wp2_with fail
  refine (laws_big.calls A0 c0 l0 false _ HR.out HC.out HB.out).mono ?_; rintro e w1 ⟨rfl, hb1⟩
  have M1 := Aside0.mk ((Mem.start w).step hb1.below); clear hb1
  go_wp2_with fail
  refine (spec_DrawDoBinary.calls k A0 c0 l0 op k1 n1 t1 r1 k2 n2 t2 r2 _ (Kd.C_below HR.out M1.out.below) HC.out HD.out).mono ?_; rintro e w2 ⟨rfl, hb2⟩
  have M2 := Aside0.mk (M1.out.step (by first | exact hb2 | exact hb2.below)); clear hb2 M1
  go_wp2_with fail
  have HV1 := Aside0.mk hv1; have HV2 := Aside0.mk hv2; clear hv1 hv2
  have M3 := Aside0.mk ((M2.out.allocAt rfl #[.int .i64 k1, .int .u64 n1, .string t1, .int .i64 r1] 37).allocAt (g := w2.heap.size + 1) (by simp) #[.int .i64 k2, .int .u64 n2, .string t2, .int .i64 r2] 37); clear M2
  refine (spec_ValueOk.calls k1 n1 t1 r1 true _ HV1.out).mono ?_; rintro e w4 ⟨rfl, hb⟩
  have M4 := Aside0.mk (M3.out.step (by first | exact hb | exact hb.below)); clear hb M3
  have z1 := M4.out.box (.tail _ (.head _)); have z2 := M4.out.box (.head _)
  go_wp2_with fail
  refine (spec_ValueOk.calls k2 n2 t2 r2 true _ HV2.out).mono ?_; rintro e w5 ⟨rfl, hb⟩
  have M5 := Aside0.mk (M4.out.step (by first | exact hb | exact hb.below)); clear hb M4 z1 z2
  have z1 := M5.out.box (.tail _ (.head _)); have z2 := M5.out.box (.head _)
  go_wp2_with fail
  have C := fun W => doBinI 6 k1 n1 r1 k2 n2 r2 t1 t2 W HA.out.1.1 HA.out.1.2 HA.out.2.1 HA.out.2.2
  rw [HL.out] at C; dsimp only [boolV, typeV] at C; try simp only [show bn true = 1 from rfl, show bn false = 0 from rfl] at C
  refine (C _).mono ?_; clear C; rintro e x6 ⟨rfl, hb⟩
  have M6 := Aside0.mk ((M5.out.step hb).allocAt rfl #[.int .i64 0, .int .u64 0, .string (⟨#[]⟩ : ByteArray), .int .i64 0] 37); clear hb M5 z1 z2
  have z1 := M6.out.box (.tail _ (.tail _ (.head _))); have z2 := M6.out.box (.tail _ (.head _))
  go_wp2_with fail
  have C := fun W => doBinI 7 k1 n1 r1 k2 n2 r2 t1 t2 W HA.out.1.1 HA.out.1.2 HA.out.2.1 HA.out.2.2
  rw [HM.out] at C; dsimp only [boolV, typeV] at C; try simp only [show bn true = 1 from rfl, show bn false = 0 from rfl] at C
  refine (C _).mono ?_; clear C; rintro e x7 ⟨rfl, hb⟩
  have M7 := Aside0.mk ((M6.out.step hb).allocAt rfl #[.int .i64 0, .int .u64 0, .string (⟨#[]⟩ : ByteArray), .int .i64 0] 37); clear hb M6 z1 z2
  have z1 := M7.out.box (.tail _ (.tail _ (.tail _ (.head _)))); have z2 := M7.out.box (.tail _ (.tail _ (.head _)))
  go_wp2_with fail
  have C := fun W => doBinI 8 k2 n2 r2 k1 n1 r1 t2 t1 W HA.out.1.2 HA.out.1.1 HA.out.2.2 HA.out.2.1
  rw [HG.out] at C; dsimp only [boolV, typeV] at C; try simp only [show bn true = 1 from rfl, show bn false = 0 from rfl] at C
  refine (C _).mono ?_; clear C; rintro e x8 ⟨rfl, hb⟩
  have M8 := Aside0.mk ((M7.out.step hb).allocAt rfl #[.int .i64 0, .int .u64 0, .string (⟨#[]⟩ : ByteArray), .int .i64 0] 37); clear hb M7 z1 z2
  have z1 := M8.out.box (.tail _ (.tail _ (.tail _ (.tail _ (.head _))))); have z2 := M8.out.box (.tail _ (.tail _ (.tail _ (.head _))))
  go_wp2_with fail
  have C := fun W => doBinI 10 k1 n1 r1 k2 n2 r2 t1 t2 W HA.out.1.1 HA.out.1.2 HA.out.2.1 HA.out.2.2
  rw [HS.out] at C; dsimp only [boolV, typeV] at C; try simp only [show bn true = 1 from rfl, show bn false = 0 from rfl] at C
  refine (C _).mono ?_; clear C; rintro e x9 ⟨rfl, hb⟩
  have M9 := Aside0.mk ((M8.out.step hb).allocAt rfl #[.int .i64 1, .int .u64 0, .string (⟨#[]⟩ : ByteArray), .int .i64 0] 37); clear hb M8 z1 z2
  have z1 := M9.out.box (.tail _ (.tail _ (.tail _ (.tail _ (.tail _ (.head _)))))); have z2 := M9.out.box (.tail _ (.tail _ (.tail _ (.tail _ (.head _)))))
  go_wp2_with fail
  have C := fun W => doBinI 11 k1 n1 r1 k2 n2 r2 t1 t2 W HA.out.1.1 HA.out.1.2 HA.out.2.1 HA.out.2.2
  rw [HO.out] at C; dsimp only [boolV, typeV] at C; try simp only [show bn true = 1 from rfl, show bn false = 0 from rfl] at C
  refine (C _).mono ?_; clear C; rintro e x10 ⟨rfl, hb⟩
  have M10 := Aside0.mk ((M9.out.step hb).allocAt rfl #[.int .i64 1, .int .u64 1, .string (⟨#[]⟩ : ByteArray), .int .i64 0] 37); clear hb M9 z1 z2
  have z1 := M10.out.box (.tail _ (.tail _ (.tail _ (.tail _ (.tail _ (.tail _ (.head _))))))); have z2 := M10.out.box (.tail _ (.tail _ (.tail _ (.tail _ (.tail _ (.head _))))))
  go_wp2_with fail
  clear z1 z2
  refine sz 9 (fun W => (∀ o, W.cell? ⟨x9.heap.size, o, none⟩ = (#[.int .i64 1, .int .u64 0, .string (⟨#[]⟩ : ByteArray), .int .i64 0] : Array Value)[o]?) ∧ (∀ o, W.cell? ⟨x10.heap.size, o, none⟩ = (#[.int .i64 1, .int .u64 1, .string (⟨#[]⟩ : ByteArray), .int .i64 0] : Array Value)[o]?)) [] cmpL.tab11 cmpL.bits11 ⟨M10.out.drew.box (.tail _ (.head _)), M10.out.drew.box (.head _)⟩ (fun HT_ HW_ hHeld => ?_)
  have MD := Aside0.mk M10.out.drew; clear M10
  generalize World.drew _ = wd at MD hHeld ⊢
  refine pz 0 74 ?_; refine pz 1 75 ?_; refine pz 2 76 ?_; refine tz 3 77 ?_; refine tz 5 79 ?_
  refine ez 4 (some 78) (fun K hK => ?_)
  refine gz Try.func24 #[.agg #[.int .i64 1, .int .u64 0, .string (⟨#[]⟩ : ByteArray), .int .i64 0]] ?_
  refine (impl_IsTrue.calls 100 1 0 (⟨#[]⟩ : ByteArray) 0 false _ (true_bool 100 false)).mono ?_; rintro e y1 ⟨rfl, hb⟩
  have MX1 := Aside0.mk (MD.out.step (by first | exact hb | exact hb.below)); clear hb MD
  refine ⟨_, rfl, ?_⟩
  refine hK.out _ _ ⟨MX1.out.box (.tail _ (.head _)), MX1.out.box (.head _)⟩ (fun hHeld => ?_); clear hK K; refine kz (some 78) ?_
  refine ez 6 (some 80) (fun K hK => ?_)
  refine gz Try.func24 #[.agg #[.int .i64 1, .int .u64 1, .string (⟨#[]⟩ : ByteArray), .int .i64 0]] ?_
  refine (impl_IsTrue.calls 100 1 1 (⟨#[]⟩ : ByteArray) 0 true _ (true_bool 100 true)).mono ?_; rintro e y2 ⟨rfl, hb⟩
  have MX2 := Aside0.mk (MX1.out.step (by first | exact hb | exact hb.below)); clear hb MX1
  refine ⟨_, rfl, ?_⟩
  refine hK.out _ _ ⟨MX2.out.box (.tail _ (.head _)), MX2.out.box (.head _)⟩ (fun hHeld => ?_); clear hK K; refine kz (some 80) ?_
  refine pz 7 81 ?_; refine pz 8 82 ?_
  refine dz ?_
  clear hHeld
  go_wp2
  go_ret
  exact ⟨rfl, MX2.out.below⟩
set_option maxHeartbeats 8000000 in
set_option maxRecDepth 100000 in
theorem wX_false_true (A0 : Option Addr) (c0 : Nat) (l0 : List Int) (k : Nat) (op k1 n1 r1 k2 n2 r2 : Int) (t1 t2 : ByteArray) (w : World) (hr0 : Kd.C (Kd.int .u8) w A0 l0.length l0) (hc0 : l0.length ≤ c0) (hbig : laws_big.f l0 = some false)
    (hd : spec_DrawDoBinary.f k l0 = some (op, k1, n1, t1, r1, k2, n2, t2, r2)) (hn1 : 0 ≤ n1 ∧ n1 < 18446744073709551616) (hn2 : 0 ≤ n2 ∧ n2 < 18446744073709551616) (hs1 : t1.size ≤ 1048576) (hs2 : t2.size ≤ 1048576) (hv1 : spec_ValueOk.f k1 n1 t1 r1 = some false) (hv2 : spec_ValueOk.f k2 n2 t2 r2 = some true) :
    Calls Try.prog 5 #[.slice A0 l0.length c0] w fun e w' => e = .returned (.bool true) ∧ Below w.heap.size w w' := by
  have HB := Aside0.mk hbig; have HD := Aside0.mk hd; have HA := Aside0.mk (And.intro (And.intro hn1 hn2) (And.intro hs1 hs2)); clear hbig hd hn1 hn2 hs1 hs2
  have hu := Try.underlying37
  have HR := Aside0.mk hr0; have HC := Aside0.mk hc0; clear hr0 hc0
  go_enter Try.func5, Try.ntmps5
  go_wp2_with fail
  refine (laws_big.calls A0 c0 l0 false _ HR.out HC.out HB.out).mono ?_; rintro e w1 ⟨rfl, hb1⟩
  have M1 := Aside0.mk ((Mem.start w).step hb1.below); clear hb1
  go_wp2_with fail
  refine (spec_DrawDoBinary.calls k A0 c0 l0 op k1 n1 t1 r1 k2 n2 t2 r2 _ (Kd.C_below HR.out M1.out.below) HC.out HD.out).mono ?_; rintro e w2 ⟨rfl, hb2⟩
  have M2 := Aside0.mk (M1.out.step (by first | exact hb2 | exact hb2.below)); clear hb2 M1
  go_wp2_with fail
  have HV1 := Aside0.mk hv1; have HV2 := Aside0.mk hv2; clear hv1 hv2
  have HI1 := Aside0.mk ((ok_same k1 n1 t1 r1).symm.trans HV1.out); have HI2 := Aside0.mk ((ok_same k2 n2 t2 r2).symm.trans HV2.out)
  have M3 := Aside0.mk ((M2.out.allocAt rfl #[.int .i64 k1, .int .u64 n1, .string t1, .int .i64 r1] 37).allocAt (g := w2.heap.size + 1) (by simp) #[.int .i64 k2, .int .u64 n2, .string t2, .int .i64 r2] 37); clear M2
  refine (spec_ValueOk.calls k1 n1 t1 r1 false _ HV1.out).mono ?_; rintro e w4 ⟨rfl, hb⟩
  have M4 := Aside0.mk (M3.out.step (by first | exact hb | exact hb.below)); clear hb M3
  have z1 := M4.out.box (.tail _ (.head _)); have z2 := M4.out.box (.head _)
  go_wp2_with fail
  clear z1 z2
  refine sz 13 (fun W => (∀ o, W.cell? ⟨w2.heap.size, o, none⟩ = (#[.int .i64 k1, .int .u64 n1, .string t1, .int .i64 r1] : Array Value)[o]?) ∧ (∀ o, W.cell? ⟨w2.heap.size + 1, o, none⟩ = (#[.int .i64 k2, .int .u64 n2, .string t2, .int .i64 r2] : Array Value)[o]?)) [] cmpL.tab5 cmpL.bits5 ⟨M4.out.drew.box (.tail _ (.head _)), M4.out.drew.box (.head _)⟩ (fun HT_ HW_ hHeld => ?_)
  have MD := Aside0.mk M4.out.drew; clear M4
  generalize World.drew _ = wd at MD hHeld ⊢
  refine tz 0 32 ?_; refine tz 2 34 ?_
  refine ez 1 (some 33) (fun K hK => ?_)
  refine gz Try.func22 #[.agg #[.int .i64 k1, .int .u64 n1, .string t1, .int .i64 r1]] ?_
  refine (impl_ValueOk.calls k1 n1 t1 r1 false _ HI1.out).mono ?_; rintro e y1 ⟨rfl, hb⟩
  have MX1 := Aside0.mk (MD.out.step (by first | exact hb | exact hb.below)); clear hb MD
  refine ⟨_, rfl, ?_⟩
  refine hK.out _ _ ⟨MX1.out.box (.tail _ (.head _)), MX1.out.box (.head _)⟩ (fun hHeld => ?_); clear hK K; refine kz (some 33) ?_
  refine ez 3 (some 35) (fun K hK => ?_)
  refine gz Try.func21 #[.agg #[.int .i64 k1, .int .u64 n1, .string t1, .int .i64 r1]] ?_
  refine (spec_ValueOk.calls k1 n1 t1 r1 false _ HV1.out).mono ?_; rintro e y2 ⟨rfl, hb⟩
  have MX2 := Aside0.mk (MX1.out.step (by first | exact hb | exact hb.below)); clear hb MX1
  refine ⟨_, rfl, ?_⟩
  refine hK.out _ _ ⟨MX2.out.box (.tail _ (.head _)), MX2.out.box (.head _)⟩ (fun hHeld => ?_); clear hK K; refine kz (some 35) ?_
  refine pz 4 36 ?_; refine pz 5 37 ?_; refine tz 6 38 ?_; refine tz 8 40 ?_
  refine ez 7 (some 39) (fun K hK => ?_)
  refine gz Try.func22 #[.agg #[.int .i64 k2, .int .u64 n2, .string t2, .int .i64 r2]] ?_
  refine (impl_ValueOk.calls k2 n2 t2 r2 true _ HI2.out).mono ?_; rintro e y3 ⟨rfl, hb⟩
  have MX3 := Aside0.mk (MX2.out.step (by first | exact hb | exact hb.below)); clear hb MX2
  refine ⟨_, rfl, ?_⟩
  refine hK.out _ _ ⟨MX3.out.box (.tail _ (.head _)), MX3.out.box (.head _)⟩ (fun hHeld => ?_); clear hK K; refine kz (some 39) ?_
  refine ez 9 (some 41) (fun K hK => ?_)
  refine gz Try.func21 #[.agg #[.int .i64 k2, .int .u64 n2, .string t2, .int .i64 r2]] ?_
  refine (spec_ValueOk.calls k2 n2 t2 r2 true _ HV2.out).mono ?_; rintro e y4 ⟨rfl, hb⟩
  have MX4 := Aside0.mk (MX3.out.step (by first | exact hb | exact hb.below)); clear hb MX3
  refine ⟨_, rfl, ?_⟩
  refine hK.out _ _ ⟨MX4.out.box (.tail _ (.head _)), MX4.out.box (.head _)⟩ (fun hHeld => ?_); clear hK K; refine kz (some 41) ?_
  refine pz 10 42 ?_; refine pz 11 43 ?_; refine pz 12 2 ?_
  refine dz ?_
  clear hHeld
  go_wp2
  go_ret
  exact ⟨rfl, MX4.out.below⟩
set_option maxHeartbeats 8000000 in
set_option maxRecDepth 100000 in
theorem wX_false_false (A0 : Option Addr) (c0 : Nat) (l0 : List Int) (k : Nat) (op k1 n1 r1 k2 n2 r2 : Int) (t1 t2 : ByteArray) (w : World) (hr0 : Kd.C (Kd.int .u8) w A0 l0.length l0) (hc0 : l0.length ≤ c0) (hbig : laws_big.f l0 = some false)
    (hd : spec_DrawDoBinary.f k l0 = some (op, k1, n1, t1, r1, k2, n2, t2, r2)) (hn1 : 0 ≤ n1 ∧ n1 < 18446744073709551616) (hn2 : 0 ≤ n2 ∧ n2 < 18446744073709551616) (hs1 : t1.size ≤ 1048576) (hs2 : t2.size ≤ 1048576) (hv1 : spec_ValueOk.f k1 n1 t1 r1 = some false) (hv2 : spec_ValueOk.f k2 n2 t2 r2 = some false) :
    Calls Try.prog 5 #[.slice A0 l0.length c0] w fun e w' => e = .returned (.bool true) ∧ Below w.heap.size w w' := by
  have HB := Aside0.mk hbig; have HD := Aside0.mk hd; have HA := Aside0.mk (And.intro (And.intro hn1 hn2) (And.intro hs1 hs2)); clear hbig hd hn1 hn2 hs1 hs2
  have hu := Try.underlying37
  have HR := Aside0.mk hr0; have HC := Aside0.mk hc0; clear hr0 hc0
  go_enter Try.func5, Try.ntmps5
  go_wp2_with fail
  refine (laws_big.calls A0 c0 l0 false _ HR.out HC.out HB.out).mono ?_; rintro e w1 ⟨rfl, hb1⟩
  have M1 := Aside0.mk ((Mem.start w).step hb1.below); clear hb1
  go_wp2_with fail
  refine (spec_DrawDoBinary.calls k A0 c0 l0 op k1 n1 t1 r1 k2 n2 t2 r2 _ (Kd.C_below HR.out M1.out.below) HC.out HD.out).mono ?_; rintro e w2 ⟨rfl, hb2⟩
  have M2 := Aside0.mk (M1.out.step (by first | exact hb2 | exact hb2.below)); clear hb2 M1
  go_wp2_with fail
  have HV1 := Aside0.mk hv1; have HV2 := Aside0.mk hv2; clear hv1 hv2
  have HI1 := Aside0.mk ((ok_same k1 n1 t1 r1).symm.trans HV1.out); have HI2 := Aside0.mk ((ok_same k2 n2 t2 r2).symm.trans HV2.out)
  have M3 := Aside0.mk ((M2.out.allocAt rfl #[.int .i64 k1, .int .u64 n1, .string t1, .int .i64 r1] 37).allocAt (g := w2.heap.size + 1) (by simp) #[.int .i64 k2, .int .u64 n2, .string t2, .int .i64 r2] 37); clear M2
  refine (spec_ValueOk.calls k1 n1 t1 r1 false _ HV1.out).mono ?_; rintro e w4 ⟨rfl, hb⟩
  have M4 := Aside0.mk (M3.out.step (by first | exact hb | exact hb.below)); clear hb M3
  have z1 := M4.out.box (.tail _ (.head _)); have z2 := M4.out.box (.head _)
  go_wp2_with fail
  clear z1 z2
  refine sz 13 (fun W => (∀ o, W.cell? ⟨w2.heap.size, o, none⟩ = (#[.int .i64 k1, .int .u64 n1, .string t1, .int .i64 r1] : Array Value)[o]?) ∧ (∀ o, W.cell? ⟨w2.heap.size + 1, o, none⟩ = (#[.int .i64 k2, .int .u64 n2, .string t2, .int .i64 r2] : Array Value)[o]?)) [] cmpL.tab5 cmpL.bits5 ⟨M4.out.drew.box (.tail _ (.head _)), M4.out.drew.box (.head _)⟩ (fun HT_ HW_ hHeld => ?_)
  have MD := Aside0.mk M4.out.drew; clear M4
  generalize World.drew _ = wd at MD hHeld ⊢
  refine tz 0 32 ?_; refine tz 2 34 ?_
  refine ez 1 (some 33) (fun K hK => ?_)
  refine gz Try.func22 #[.agg #[.int .i64 k1, .int .u64 n1, .string t1, .int .i64 r1]] ?_
  refine (impl_ValueOk.calls k1 n1 t1 r1 false _ HI1.out).mono ?_; rintro e y1 ⟨rfl, hb⟩
  have MX1 := Aside0.mk (MD.out.step (by first | exact hb | exact hb.below)); clear hb MD
  refine ⟨_, rfl, ?_⟩
  refine hK.out _ _ ⟨MX1.out.box (.tail _ (.head _)), MX1.out.box (.head _)⟩ (fun hHeld => ?_); clear hK K; refine kz (some 33) ?_
  refine ez 3 (some 35) (fun K hK => ?_)
  refine gz Try.func21 #[.agg #[.int .i64 k1, .int .u64 n1, .string t1, .int .i64 r1]] ?_
  refine (spec_ValueOk.calls k1 n1 t1 r1 false _ HV1.out).mono ?_; rintro e y2 ⟨rfl, hb⟩
  have MX2 := Aside0.mk (MX1.out.step (by first | exact hb | exact hb.below)); clear hb MX1
  refine ⟨_, rfl, ?_⟩
  refine hK.out _ _ ⟨MX2.out.box (.tail _ (.head _)), MX2.out.box (.head _)⟩ (fun hHeld => ?_); clear hK K; refine kz (some 35) ?_
  refine pz 4 36 ?_; refine pz 5 37 ?_; refine tz 6 38 ?_; refine tz 8 40 ?_
  refine ez 7 (some 39) (fun K hK => ?_)
  refine gz Try.func22 #[.agg #[.int .i64 k2, .int .u64 n2, .string t2, .int .i64 r2]] ?_
  refine (impl_ValueOk.calls k2 n2 t2 r2 false _ HI2.out).mono ?_; rintro e y3 ⟨rfl, hb⟩
  have MX3 := Aside0.mk (MX2.out.step (by first | exact hb | exact hb.below)); clear hb MX2
  refine ⟨_, rfl, ?_⟩
  refine hK.out _ _ ⟨MX3.out.box (.tail _ (.head _)), MX3.out.box (.head _)⟩ (fun hHeld => ?_); clear hK K; refine kz (some 39) ?_
  refine ez 9 (some 41) (fun K hK => ?_)
  refine gz Try.func21 #[.agg #[.int .i64 k2, .int .u64 n2, .string t2, .int .i64 r2]] ?_
  refine (spec_ValueOk.calls k2 n2 t2 r2 false _ HV2.out).mono ?_; rintro e y4 ⟨rfl, hb⟩
  have MX4 := Aside0.mk (MX3.out.step (by first | exact hb | exact hb.below)); clear hb MX3
  refine ⟨_, rfl, ?_⟩
  refine hK.out _ _ ⟨MX4.out.box (.tail _ (.head _)), MX4.out.box (.head _)⟩ (fun hHeld => ?_); clear hK K; refine kz (some 41) ?_
  refine pz 10 42 ?_; refine pz 11 43 ?_; refine pz 12 2 ?_
  refine dz ?_
  clear hHeld
  go_wp2
  go_ret
  exact ⟨rfl, MX4.out.below⟩
set_option maxHeartbeats 8000000 in
set_option maxRecDepth 100000 in
theorem wX_true_false (A0 : Option Addr) (c0 : Nat) (l0 : List Int) (k : Nat) (op k1 n1 r1 k2 n2 r2 : Int) (t1 t2 : ByteArray) (w : World) (hr0 : Kd.C (Kd.int .u8) w A0 l0.length l0) (hc0 : l0.length ≤ c0) (hbig : laws_big.f l0 = some false)
    (hd : spec_DrawDoBinary.f k l0 = some (op, k1, n1, t1, r1, k2, n2, t2, r2)) (hn1 : 0 ≤ n1 ∧ n1 < 18446744073709551616) (hn2 : 0 ≤ n2 ∧ n2 < 18446744073709551616) (hs1 : t1.size ≤ 1048576) (hs2 : t2.size ≤ 1048576) (hv1 : spec_ValueOk.f k1 n1 t1 r1 = some true) (hv2 : spec_ValueOk.f k2 n2 t2 r2 = some false) :
    Calls Try.prog 5 #[.slice A0 l0.length c0] w fun e w' => e = .returned (.bool true) ∧ Below w.heap.size w w' := by
  have HB := Aside0.mk hbig; have HD := Aside0.mk hd; have HA := Aside0.mk (And.intro (And.intro hn1 hn2) (And.intro hs1 hs2)); clear hbig hd hn1 hn2 hs1 hs2
  have hu := Try.underlying37
  have HR := Aside0.mk hr0; have HC := Aside0.mk hc0; clear hr0 hc0
  go_enter Try.func5, Try.ntmps5
  go_wp2_with fail
  refine (laws_big.calls A0 c0 l0 false _ HR.out HC.out HB.out).mono ?_; rintro e w1 ⟨rfl, hb1⟩
  have M1 := Aside0.mk ((Mem.start w).step hb1.below); clear hb1
  go_wp2_with fail
  refine (spec_DrawDoBinary.calls k A0 c0 l0 op k1 n1 t1 r1 k2 n2 t2 r2 _ (Kd.C_below HR.out M1.out.below) HC.out HD.out).mono ?_; rintro e w2 ⟨rfl, hb2⟩
  have M2 := Aside0.mk (M1.out.step (by first | exact hb2 | exact hb2.below)); clear hb2 M1
  go_wp2_with fail
  have HV1 := Aside0.mk hv1; have HV2 := Aside0.mk hv2; clear hv1 hv2
  have HI1 := Aside0.mk ((ok_same k1 n1 t1 r1).symm.trans HV1.out); have HI2 := Aside0.mk ((ok_same k2 n2 t2 r2).symm.trans HV2.out)
  have M3 := Aside0.mk ((M2.out.allocAt rfl #[.int .i64 k1, .int .u64 n1, .string t1, .int .i64 r1] 37).allocAt (g := w2.heap.size + 1) (by simp) #[.int .i64 k2, .int .u64 n2, .string t2, .int .i64 r2] 37); clear M2
  refine (spec_ValueOk.calls k1 n1 t1 r1 true _ HV1.out).mono ?_; rintro e w4 ⟨rfl, hb⟩
  have M4 := Aside0.mk (M3.out.step (by first | exact hb | exact hb.below)); clear hb M3
  have z1 := M4.out.box (.tail _ (.head _)); have z2 := M4.out.box (.head _)
  go_wp2_with fail
  refine (spec_ValueOk.calls k2 n2 t2 r2 false _ HV2.out).mono ?_; rintro e w5 ⟨rfl, hb⟩
  have M5 := Aside0.mk (M4.out.step (by first | exact hb | exact hb.below)); clear hb M4 z1 z2
  have z1 := M5.out.box (.tail _ (.head _)); have z2 := M5.out.box (.head _)
  go_wp2_with fail
  clear z1 z2
  refine sz 13 (fun W => (∀ o, W.cell? ⟨w2.heap.size, o, none⟩ = (#[.int .i64 k1, .int .u64 n1, .string t1, .int .i64 r1] : Array Value)[o]?) ∧ (∀ o, W.cell? ⟨w2.heap.size + 1, o, none⟩ = (#[.int .i64 k2, .int .u64 n2, .string t2, .int .i64 r2] : Array Value)[o]?)) [] cmpL.tab5 cmpL.bits5 ⟨M5.out.drew.box (.tail _ (.head _)), M5.out.drew.box (.head _)⟩ (fun HT_ HW_ hHeld => ?_)
  have MD := Aside0.mk M5.out.drew; clear M5
  generalize World.drew _ = wd at MD hHeld ⊢
  refine tz 0 32 ?_; refine tz 2 34 ?_
  refine ez 1 (some 33) (fun K hK => ?_)
  refine gz Try.func22 #[.agg #[.int .i64 k1, .int .u64 n1, .string t1, .int .i64 r1]] ?_
  refine (impl_ValueOk.calls k1 n1 t1 r1 true _ HI1.out).mono ?_; rintro e y1 ⟨rfl, hb⟩
  have MX1 := Aside0.mk (MD.out.step (by first | exact hb | exact hb.below)); clear hb MD
  refine ⟨_, rfl, ?_⟩
  refine hK.out _ _ ⟨MX1.out.box (.tail _ (.head _)), MX1.out.box (.head _)⟩ (fun hHeld => ?_); clear hK K; refine kz (some 33) ?_
  refine ez 3 (some 35) (fun K hK => ?_)
  refine gz Try.func21 #[.agg #[.int .i64 k1, .int .u64 n1, .string t1, .int .i64 r1]] ?_
  refine (spec_ValueOk.calls k1 n1 t1 r1 true _ HV1.out).mono ?_; rintro e y2 ⟨rfl, hb⟩
  have MX2 := Aside0.mk (MX1.out.step (by first | exact hb | exact hb.below)); clear hb MX1
  refine ⟨_, rfl, ?_⟩
  refine hK.out _ _ ⟨MX2.out.box (.tail _ (.head _)), MX2.out.box (.head _)⟩ (fun hHeld => ?_); clear hK K; refine kz (some 35) ?_
  refine pz 4 36 ?_; refine pz 5 37 ?_; refine tz 6 38 ?_; refine tz 8 40 ?_
  refine ez 7 (some 39) (fun K hK => ?_)
  refine gz Try.func22 #[.agg #[.int .i64 k2, .int .u64 n2, .string t2, .int .i64 r2]] ?_
  refine (impl_ValueOk.calls k2 n2 t2 r2 false _ HI2.out).mono ?_; rintro e y3 ⟨rfl, hb⟩
  have MX3 := Aside0.mk (MX2.out.step (by first | exact hb | exact hb.below)); clear hb MX2
  refine ⟨_, rfl, ?_⟩
  refine hK.out _ _ ⟨MX3.out.box (.tail _ (.head _)), MX3.out.box (.head _)⟩ (fun hHeld => ?_); clear hK K; refine kz (some 39) ?_
  refine ez 9 (some 41) (fun K hK => ?_)
  refine gz Try.func21 #[.agg #[.int .i64 k2, .int .u64 n2, .string t2, .int .i64 r2]] ?_
  refine (spec_ValueOk.calls k2 n2 t2 r2 false _ HV2.out).mono ?_; rintro e y4 ⟨rfl, hb⟩
  have MX4 := Aside0.mk (MX3.out.step (by first | exact hb | exact hb.below)); clear hb MX3
  refine ⟨_, rfl, ?_⟩
  refine hK.out _ _ ⟨MX4.out.box (.tail _ (.head _)), MX4.out.box (.head _)⟩ (fun hHeld => ?_); clear hK K; refine kz (some 41) ?_
  refine pz 10 42 ?_; refine pz 11 43 ?_; refine pz 12 2 ?_
  refine dz ?_
  clear hHeld
  go_wp2
  go_ret
  exact ⟨rfl, MX4.out.below⟩
theorem law {q : Prop} (A0 : Option Addr) (c0 : Nat) (l0 : List Int) (w : World) (hr0 : Kd.C (Kd.int .u8) w A0 l0.length l0) (hc0 : l0.length ≤ c0) (g : q) :
    Calls Try.prog 5 #[.slice A0 l0.length c0] w fun e w' => e = .returned (.bool true) ∧ Below w.heap.size w w' := by
  by_cases hbig : (l0.length : Int) > 1048576
  · exact wBig A0 c0 l0 w hr0 hc0 (by unfold laws_big.f; rw [decide_eq_true hbig])
  · obtain ⟨k, hk⟩ : ∃ k : Nat, 1048577 ≤ k := ⟨1048577, Nat.le_refl _⟩
    obtain ⟨op, k1, n1, t1, r1, k2, n2, t2, r2, hd, w1, s1, w2, s2⟩ := draws_ok l0 (by omega) hk
    have hb0 : laws_big.f l0 = some false := by unfold laws_big.f; rw [decide_eq_false hbig]
    obtain ⟨v1, hv1⟩ := ok_some k1 n1 t1 r1
    obtain ⟨v2, hv2⟩ := ok_some k2 n2 t2 r2
    have e1 : t1.size ≤ 1048576 := by omega
    have e2 : t2.size ≤ 1048576 := by omega
    cases v1
    · cases v2
      · exact wX_false_false A0 c0 l0 k op k1 n1 r1 k2 n2 r2 t1 t2 w hr0 hc0 hb0 hd w1 w2 e1 e2 hv1 hv2
      · exact wX_false_true A0 c0 l0 k op k1 n1 r1 k2 n2 r2 t1 t2 w hr0 hc0 hb0 hd w1 w2 e1 e2 hv1 hv2
    · cases v2
      · exact wX_true_false A0 c0 l0 k op k1 n1 r1 k2 n2 r2 t1 t2 w hr0 hc0 hb0 hd w1 w2 e1 e2 hv1 hv2
      · obtain ⟨hS, hO⟩ := bin_same k1 n1 r1 k2 n2 r2 t1 t2
        obtain ⟨s, hs⟩ : ∃ s, same k1 n1 t1 r1 k2 n2 t2 r2 = s := ⟨_, rfl⟩
        rcases comp k1 n1 r1 k2 n2 r2 t1 t2 hv1 hv2 with hT | ⟨l, hL, hG, hM⟩
        · have ha : ¬ (k1 = 2 ∧ k2 = 2) := by
            intro h
            rw [bin_num (by omega) h] at hT
            injection hT with h1 _
            omega
          have hb : ¬ (k1 = 3 ∧ k2 = 3) := by
            intro h
            rw [bin_txt (by omega) h] at hT
            injection hT with h1 _
            omega
          have hM := bin_typ (op := 7) (n1 := n1) (r1 := r1) (n2 := n2) (r2 := r2) (t1 := t1) (t2 := t2) (by omega) ha hb
          have hG := bin_typ (op := 8) (n1 := n2) (r1 := r2) (n2 := n1) (r2 := r1) (t1 := t2) (t2 := t1) (by omega) (fun h => ha ⟨h.2, h.1⟩) (fun h => hb ⟨h.2, h.1⟩)
          rw [hs] at hS hO
          cases s
          · exact wT0 A0 c0 l0 k op k1 n1 r1 k2 n2 r2 t1 t2 w hr0 hc0 hb0 hd w1 w2 e1 e2 hv1 hv2 ⟨hT⟩ ⟨hM⟩ ⟨hG⟩ ⟨hS⟩ ⟨hO⟩
          · exact wT1 A0 c0 l0 k op k1 n1 r1 k2 n2 r2 t1 t2 w hr0 hc0 hb0 hd w1 w2 e1 e2 hv1 hv2 ⟨hT⟩ ⟨hM⟩ ⟨hG⟩ ⟨hS⟩ ⟨hO⟩
        · rw [hs] at hS hO hM
          cases l
          · cases s
            · exact wR00 A0 c0 l0 k op k1 n1 r1 k2 n2 r2 t1 t2 w hr0 hc0 hb0 hd w1 w2 e1 e2 hv1 hv2 ⟨hL⟩ ⟨hM⟩ ⟨hG⟩ ⟨hS⟩ ⟨hO⟩
            · exact wR01 A0 c0 l0 k op k1 n1 r1 k2 n2 r2 t1 t2 w hr0 hc0 hb0 hd w1 w2 e1 e2 hv1 hv2 ⟨hL⟩ ⟨hM⟩ ⟨hG⟩ ⟨hS⟩ ⟨hO⟩
          · cases s
            · exact wR10 A0 c0 l0 k op k1 n1 r1 k2 n2 r2 t1 t2 w hr0 hc0 hb0 hd w1 w2 e1 e2 hv1 hv2 ⟨hL⟩ ⟨hM⟩ ⟨hG⟩ ⟨hS⟩ ⟨hO⟩
            · exact wR11 A0 c0 l0 k op k1 n1 r1 k2 n2 r2 t1 t2 w hr0 hc0 hb0 hd w1 w2 e1 e2 hv1 hv2 ⟨hL⟩ ⟨hM⟩ ⟨hG⟩ ⟨hS⟩ ⟨hO⟩
end Go.Proofs.Ytokhgodcamhibaa.Cmp
end
section
namespace Go.Proofs.Ytokhgodcamhibaa.Open
open Go.Proofs.YtokhgodcamhibaaW.PrintWords Go.ChangeShapes Go.WideShapes
section
variable {H : Type} {enc : TypeId × Value → H} {P : Program} {w : World} {base : Nat} {spare : Nat → Bool} {held : Bool}
/-- What reads as a datum at type t reads by the kind d as a value that is G. -/
def Opens {α : Type} (enc : TypeId × Value → H) (P : Program) (w : World) (base : Nat) (spare : Nat → Bool) (held : Bool) (t : TypeId) (d : Kd α) (G : α → Prop) : Prop :=
  ∀ (fuel : Nat) (cs : List Value) (x : DataW H × List MemPlace), DataW.trod enc P w base spare held fuel t cs = some x → ∃ a, d.K w a cs ∧ G a
theorem opens_int {t : TypeId} {k : IntKind} (ht : P.underlying t = some (.int k)) : Opens enc P w base spare held t (Kd.int k) (fun n => (Lit.int k n).wf = true) := by
  intro fuel cs x h
  obtain ⟨n, rfl, _, hw⟩ := DataW.trod_int ht h
  exact ⟨n, rfl, hw⟩
theorem list_choose {α : Type} {Q : Nat → α → Prop} : ∀ (n : Nat), (∀ i, i < n → ∃ a, Q i a) → ∃ l : List α, l.length = n ∧ ∀ i a, l[i]? = some a → Q i a
  | 0, _ => ⟨[], rfl, fun i a h => by simp at h⟩
  | n + 1, h => by
    obtain ⟨l, hl, hq⟩ := list_choose n (fun i hi => h i (by omega))
    obtain ⟨a, ha⟩ := h n (by omega)
    refine ⟨l ++ [a], by simp [hl], fun i b hb => ?_⟩
    rw [List.getElem?_append] at hb
    split at hb
    · exact hq i b hb
    · rename_i hi
      have hi0 : i - l.length = 0 := by
        rcases Nat.eq_zero_or_pos (i - l.length) with h0 | h0
        · exact h0
        · rw [List.getElem?_eq_none (by simp; omega)] at hb
          cases hb
      rw [hi0] at hb
      simp at hb
      subst hb
      have : i = n := by omega
      rw [this]
      exact ha
theorem opens_slice {α : Type} {t e e' : TypeId} {d : Kd α} {G : α → Prop} (ht : P.underlying t = some (.slice e)) (hc : P.cellsOf e = d.sz) (ho : Opens enc P w base spare held e d G) :
    Opens enc P w base spare held t (Kd.slice e' d) (fun xs => xs.length ≤ maxLen ∧ ∀ x ∈ xs, G x) := by
  intro fuel cs x h
  rcases DataW.trod_slice ht h with ⟨rfl, _⟩ | ⟨a, len, cap, elems, rest, n, _, rfl, _, _, hl, hm, hlen, hel, _⟩
  · exact ⟨[], ⟨none, 0, rfl, Nat.le_refl _, rfl, by simp, fun h => by simp at h⟩, by simp, fun x hx => by simp at hx⟩
  · have each : ∀ i, i < len → ∃ z : α, (∃ c, c.length = d.sz ∧ d.K w z c ∧ ∀ j u, c[j]? = some u → w.cell? (a.add (i * d.sz + j)) = some u) ∧ G z := by
      intro i hi
      have he := hel i hi
      rw [List.getElem?_eq_getElem (by omega), Option.bind_eq_some_iff] at he
      obtain ⟨c, hcs, hy⟩ := he
      obtain ⟨z, hk, hg⟩ := ho _ _ _ hy
      refine ⟨z, ⟨c, d.K_len hk, hk, fun j u hu => ?_⟩, hg⟩
      obtain ⟨_, hcl, hcell⟩ := World.cells?_some hcs
      have hj : j < c.length := (List.getElem?_eq_some_iff.1 hu).1
      have := hcell j (by omega)
      rw [hc, Addr.add_add] at this
      rw [this, hu]
    obtain ⟨l, hll, hq⟩ := list_choose len each
    refine ⟨l, ⟨some a, cap, by rw [hll], by omega, rfl, by unfold maxLen at hm; omega, fun _ => ⟨a, rfl, fun j p hp => ?_⟩⟩, by omega, fun z hz => ?_⟩
    · obtain ⟨⟨c, h1, h2, h3⟩, _⟩ := hq j p hp
      exact ⟨c, h1, h2, h3⟩
    · obtain ⟨i, hi⟩ := List.getElem?_of_mem hz
      exact (hq i z hi).2
/-- An argument: its cells, by the kind. -/
theorem opens_arg {α : Type} {t : TypeId} {d : Kd α} {G : α → Prop} {v : Value} {dd : DataW H} {p : List MemPlace} (ho : Opens enc P w base spare held t d G) (h : DataW.Trod enc P w base spare held t v dd p) : ∃ a, d.K w a v.cells.toList ∧ G a := by
  obtain ⟨fuel, hf⟩ := h
  exact ho _ _ _ hf
end
end Go.Proofs.Ytokhgodcamhibaa.Open
end
section
namespace Go.Proofs.Ytokhgodcamhibaa.fnCompares
open Go.ChangeShapes Go.WideShapes Go.ChangeAt Go.RowKit Go.Proofs.YtokhgodcamhibaaW.PrintWords Go.Proofs.Ytokhgodcamhibaa.Open
open Go.ChangeMaps (open_string shut_string)
set_option linter.unusedVariables false
set_option linter.unusedSimpArgs false
theorem own : ownKnob Try.prog.godebug = none := by kernel_rfl
theorem laidOut : laidOutB Try.prog = true := by kernel_rfl
def G5 (n : Int) : Prop := (Lit.int .u8 n).wf = true
theorem op5 {H : Type} {enc : TypeId × Value → H} {w : World} {base : Nat} {spare : Nat → Bool} {held : Bool} : Opens enc Try.prog w base spare held 5 (Kd.int .u8) G5 := opens_int Try.underlying5
def G22 (xs : List Int) : Prop := xs.length ≤ maxLen ∧ ∀ x ∈ xs, G5 x
theorem op22 {H : Type} {enc : TypeId × Value → H} {w : World} {base : Nat} {spare : Nat → Bool} {held : Bool} : Opens enc Try.prog w base spare held 22 (Kd.slice 5 (Kd.int .u8)) G22 := opens_slice Try.underlying22 (by kernel_rfl) op5
set_option maxRecDepth 100000 in
theorem lifted (os : Os) (started : os.Started) (H : Type) (enc : TypeId × Value → H) :
    ReturnsInHanded {} Try.checked os 5 .any (Rows.fnComparesSpec.pre6 enc Try.prog Try.f5 Rows.fnComparesRow.domain false) (Rows.fnComparesSpec.post enc Try.prog Try.f5 false true false false) := by
  refine returnsInHanded_of_change_sized (C := Try.checked) own started (by kernel_rfl) Try.func5
    (ChangeSpec.witness6 (enc := enc) (C := Try.checked) false ⟨#[], #[.slice none 0 0], []⟩ 8 (by kernel_rfl) (by kernel_rfl) (by kernel_rfl) (by kernel_rfl)) ?_
  intro W base args ds gs before hval0 hW hcnd hsz0 _
  have hval : ∀ (j : Nat) t v, Try.f5.params[j]? = some t → args[j]? = some v → Value.okWide Try.prog W .any base t v := hval0
  have hW' := hW
  obtain ⟨p, q, hA0, hV, rfl, hfz, hnd⟩ := hW
  have hA : DataW.TrodAll enc Try.prog W 0 (fun _ => true) true Try.f5.params.toList args.toList ds p := hA0
  rw [Try.params5] at hA hval
  obtain ⟨v0, vs0, d0, ds0, p0, q0, hargs0, rfl, rfl, h0, r0⟩ := trodAll_cons hA
  obtain ⟨rfl, rfl, rfl⟩ := trodAll_nil r0
  obtain rfl : args = #[v0] := by cases args; simp_all
  obtain ⟨rfl, rfl⟩ := trodVars_none hV
  have k0 := h0
  have lt0 : ∀ x ∈ p0, x.block < W.heap.size := by obtain ⟨m, hm⟩ := k0; exact DataW.trod_lt m _ _ _ hm
  obtain ⟨A0, n0, c0, rfl⟩ := okWide_slice Try.underlying22 (hval 0 22 v0 rfl rfl)
  obtain ⟨x0, hk0, hg0⟩ := opens_arg op22 h0
  obtain ⟨Ax0, cx0, ex0, hl0, hr0⟩ := hk0
  simp only [Value.cells, List.cons.injEq, Value.slice.injEq, and_true, Array.toList] at ex0
  obtain ⟨rfl, rfl, rfl⟩ := ex0
  clear hA0 hval0 hsz0
  refine (Cmp.law A0 c0 x0 W hr0 hl0 hg0).mono fun e W' ⟨he, bel⟩ => ?_
  subst he
  exact ⟨_, rfl, _, _, _, [], _, [], hW', trodAll_mk1 (shut_bool Try.underlying4 _), (trodAll_cons_mk (Below.trod laidOut (by kernel_rfl) (of_decide_eq_true (by kernel_rfl)) k0 bel lt0) trodAll_mk0), rfl, bel.frame _, fun h => by cases h⟩
theorem and_true_ {a b : Bool} (ha : a = true) (hb : b = true) : (a && b) = true := by rw [ha, hb]; rfl
theorem closed0 : (Rows.fnComparesRow.wf (OpenSpec.ofChange Rows.fnComparesSpec)) = true := by kernel_rfl
theorem closed1 : (laidOutB Try.pinned.checked.prog) = true := by kernel_rfl
theorem closed2 : (mapsRowed Try.pinned.checked.prog) = true := by kernel_rfl
theorem closed3 : (Try.f5.params.all (Try.pinned.checked.prog.readableRec ·)) = true := by kernel_rfl
theorem closed4 : (namedTie Try.pinned.checked.prog Rows.fnComparesRow.named Rows.fnComparesSpec.vars) = true := by kernel_rfl
theorem closed5 : ((Rows.fnComparesRow.stops == [])) = true := by kernel_rfl
theorem closed6 : ((Try.pinned.checked.prog.stops == [])) = true := by kernel_rfl
theorem closed7 : ((Rows.fnComparesRow.knobs == [])) = true := by kernel_rfl
theorem closed8 : ((Try.pinned.checked.prog.stopKnobs == [])) = true := by kernel_rfl
theorem closed9 : ((Rows.fnComparesRow.inPlace == Try.pinned.checked.prog.inPlace 5)) = true := by kernel_rfl
theorem closed10 : ((Rows.fnComparesRow.unfollowed == Try.pinned.checked.prog.unfollowed 5)) = true := by kernel_rfl
theorem closed11 : ((Rows.fnComparesRow.recurses == Try.pinned.checked.prog.recurses 5)) = true := by kernel_rfl
theorem closed12 : ((Rows.fnComparesRow.named == Try.pinned.checked.prog.varsNamed 5)) = true := by kernel_rfl
theorem closed13 : ((Rows.fnComparesRow.maps == ((Try.f5.params.toList ++ Rows.fnComparesSpec.plain.varTypes Try.pinned.checked.prog)).any (Try.pinned.checked.prog.mapsRec ·))) = true := by kernel_rfl
theorem closed14 : ((Rows.fnComparesRow.ifaces == ((Try.f5.params.toList ++ Rows.fnComparesSpec.plain.varTypes Try.pinned.checked.prog)).any (Try.pinned.checked.prog.ifacesRec ·))) = true := by kernel_rfl
theorem closed15 : ((Rows.fnComparesRow.mapsOut == Try.pinned.checked.prog.mapsAmong Try.f5.resultTypes.toList)) = true := by kernel_rfl
theorem closed16 : ((Rows.fnComparesRow.loops == ((Try.f5.params.toList ++ Rows.fnComparesSpec.plain.varTypes Try.pinned.checked.prog)).any (Try.pinned.checked.prog.loopsFrom ·))) = true := by kernel_rfl
theorem closed17 : ((Rows.fnComparesRow.wideKeys == (Try.f5.params.toList ++ Rows.fnComparesSpec.plain.varTypes Try.pinned.checked.prog ++ Try.f5.resultTypes.toList).any (Try.pinned.checked.prog.wideKeysFrom ·))) = true := by kernel_rfl
theorem closed18 : (Rows.fnComparesSpec.vars.all (Try.pinned.checked.prog.varReadable ·)) = true := by kernel_rfl
theorem closed19 : (Try.f5.resultTypes.all (fun t => Try.pinned.checked.prog.readableRec t && decide (t < Try.pinned.checked.prog.types.size))) = true := by kernel_rfl
theorem closed20 : ((Rows.fnComparesRow.ifacesOut == Try.f5.resultTypes.toList.any (Try.pinned.checked.prog.ifacesRec ·))) = true := by kernel_rfl
theorem closed21 : ((Rows.fnComparesRow.loopsOut == Try.f5.resultTypes.toList.any (Try.pinned.checked.prog.loopsFrom ·))) = true := by kernel_rfl
theorem closed22 : ((Rows.fnComparesRow.plainKeys == Try.pinned.checked.prog.plainKeys)) = true := by kernel_rfl
theorem closed23 : (Rows.fnComparesRow.shortTexts.isNone) = true := by kernel_rfl
theorem closed24 : (Try.pinned.checked.prog.stopsHeard) = true := by kernel_rfl
theorem closed25 : (Try.pinned.checked.prog.mayEnter) = true := by kernel_rfl
theorem closed26 : ((Rows.fnComparesRow.lifted == Try.pinned.checked.prog.liftsFinal)) = true := by kernel_rfl
theorem closed27 : ((Try.pinned.checked.prog.make == some Rows.fnComparesRow.make)) = true := by kernel_rfl
theorem closed28 : ((Rows.fnComparesRow.kinds == (if Rows.fnComparesRow.domain.isEmpty then [] else Try.f5.params.toList.map fun t => match Try.pinned.checked.prog.underlying t with | some (.int k) => some k | _ => none))) = true := by kernel_rfl
theorem closed29 : ((Rows.fnComparesRow.pinned == Rows.fnComparesRow.pinnedBy)) = true := by kernel_rfl
theorem closed30 : ((Rows.fnComparesRow.veiled == (Try.f5.params.toList ++ Rows.fnComparesSpec.plain.varTypes Try.pinned.checked.prog ++ Try.f5.resultTypes.toList).any (Try.pinned.checked.prog.veiledRec ·))) = true := by kernel_rfl
theorem closed31 : (Rows.fnComparesRow.veiledFits Try.pinned.checked.prog Try.f5.params.toList (Try.f5.params.toList ++ Rows.fnComparesSpec.plain.varTypes Try.pinned.checked.prog ++ Try.f5.resultTypes.toList)) = true := by kernel_rfl
set_option maxRecDepth 100000 in
theorem closed : joinedFacts Try.pinned.checked.prog 5 Try.f5 Rows.fnComparesSpec Rows.fnComparesRow = true := by
  show (Rows.fnComparesRow.wf (OpenSpec.ofChange Rows.fnComparesSpec) && laidOutB Try.pinned.checked.prog && mapsRowed Try.pinned.checked.prog && Try.f5.params.all (Try.pinned.checked.prog.readableRec ·) && namedTie Try.pinned.checked.prog Rows.fnComparesRow.named Rows.fnComparesSpec.vars && (Rows.fnComparesRow.stops == []) && (Try.pinned.checked.prog.stops == []) && (Rows.fnComparesRow.knobs == []) && (Try.pinned.checked.prog.stopKnobs == []) && (Rows.fnComparesRow.inPlace == Try.pinned.checked.prog.inPlace 5) && (Rows.fnComparesRow.unfollowed == Try.pinned.checked.prog.unfollowed 5) && (Rows.fnComparesRow.recurses == Try.pinned.checked.prog.recurses 5) && (Rows.fnComparesRow.named == Try.pinned.checked.prog.varsNamed 5) && (Rows.fnComparesRow.maps == ((Try.f5.params.toList ++ Rows.fnComparesSpec.plain.varTypes Try.pinned.checked.prog)).any (Try.pinned.checked.prog.mapsRec ·)) && (Rows.fnComparesRow.ifaces == ((Try.f5.params.toList ++ Rows.fnComparesSpec.plain.varTypes Try.pinned.checked.prog)).any (Try.pinned.checked.prog.ifacesRec ·)) && (Rows.fnComparesRow.mapsOut == Try.pinned.checked.prog.mapsAmong Try.f5.resultTypes.toList) && (Rows.fnComparesRow.loops == ((Try.f5.params.toList ++ Rows.fnComparesSpec.plain.varTypes Try.pinned.checked.prog)).any (Try.pinned.checked.prog.loopsFrom ·)) && (Rows.fnComparesRow.wideKeys == (Try.f5.params.toList ++ Rows.fnComparesSpec.plain.varTypes Try.pinned.checked.prog ++ Try.f5.resultTypes.toList).any (Try.pinned.checked.prog.wideKeysFrom ·)) && Rows.fnComparesSpec.vars.all (Try.pinned.checked.prog.varReadable ·) && Try.f5.resultTypes.all (fun t => Try.pinned.checked.prog.readableRec t && decide (t < Try.pinned.checked.prog.types.size)) && (Rows.fnComparesRow.ifacesOut == Try.f5.resultTypes.toList.any (Try.pinned.checked.prog.ifacesRec ·)) && (Rows.fnComparesRow.loopsOut == Try.f5.resultTypes.toList.any (Try.pinned.checked.prog.loopsFrom ·)) && (Rows.fnComparesRow.plainKeys == Try.pinned.checked.prog.plainKeys) && Rows.fnComparesRow.shortTexts.isNone && Try.pinned.checked.prog.stopsHeard && Try.pinned.checked.prog.mayEnter && (Rows.fnComparesRow.lifted == Try.pinned.checked.prog.liftsFinal) && (Try.pinned.checked.prog.make == some Rows.fnComparesRow.make) && (Rows.fnComparesRow.kinds == (if Rows.fnComparesRow.domain.isEmpty then [] else Try.f5.params.toList.map fun t => match Try.pinned.checked.prog.underlying t with | some (.int k) => some k | _ => none)) && (Rows.fnComparesRow.pinned == Rows.fnComparesRow.pinnedBy) && (Rows.fnComparesRow.veiled == (Try.f5.params.toList ++ Rows.fnComparesSpec.plain.varTypes Try.pinned.checked.prog ++ Try.f5.resultTypes.toList).any (Try.pinned.checked.prog.veiledRec ·)) && Rows.fnComparesRow.veiledFits Try.pinned.checked.prog Try.f5.params.toList (Try.f5.params.toList ++ Rows.fnComparesSpec.plain.varTypes Try.pinned.checked.prog ++ Try.f5.resultTypes.toList)) = true
  exact (and_true_ (and_true_ (and_true_ (and_true_ (and_true_ (and_true_ (and_true_ (and_true_ (and_true_ (and_true_ (and_true_ (and_true_ (and_true_ (and_true_ (and_true_ (and_true_ (and_true_ (and_true_ (and_true_ (and_true_ (and_true_ (and_true_ (and_true_ (and_true_ (and_true_ (and_true_ (and_true_ (and_true_ (and_true_ (and_true_ (and_true_ closed0 closed1) closed2) closed3) closed4) closed5) closed6) closed7) closed8) closed9) closed10) closed11) closed12) closed13) closed14) closed15) closed16) closed17) closed18) closed19) closed20) closed21) closed22) closed23) closed24) closed25) closed26) closed27) closed28) closed29) closed30) closed31)
theorem named : Try.pinned.checked.prog.funcNamed Rows.fnComparesRow.func = some 5 := by kernel_rfl
theorem over : Rows.fnComparesRow.holds Try.pinned (OpenSpec.ofChange Rows.fnComparesSpec) :=
  OpenClaim.holds_of_wide 5 Try.f5 rfl rfl rfl rfl rfl rfl rfl ⟨rfl, rfl, rfl, rfl, rfl⟩ rfl rfl rfl rfl rfl named Try.func5 closed
    (of_decide_eq_true (by kernel_rfl)) (by unfold Func.isWrapper; first | (rw [if_pos (by decide +kernel)]; kernel_rfl) | (rw [if_neg (by decide +kernel)]; exact ⟨rfl, rfl⟩))
    (fun os started H enc _ => lifted os started H enc)
theorem proved : Rows.FnComparesSaid := over
#print axioms proved
end Go.Proofs.Ytokhgodcamhibaa.fnCompares
namespace Go.Proofs.Ytokhgodcamhibaa
/-- The row, under a short name, for the claim. -/
theorem fnCompares_holds : Rows.FnComparesSaid := fnCompares.proved
end Go.Proofs.Ytokhgodcamhibaa
end
