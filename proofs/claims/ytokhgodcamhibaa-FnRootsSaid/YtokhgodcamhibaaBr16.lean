/- The row of 'FnRoots': for every input the law returns true, and each argument reads behind the call as it read before. No condition. -/
import Derived.Deep.QuietTactic
import Derived.BigQuiet
import Derived.ProofKit
import Derived.OpenShut
import Derived.ChangeOld
import Derived.ChangeShapes
import Derived.WideShapes
import Derived.ChangeArms
import Derived.DataReads
import Derived.DataElems
import Derived.Test.YtokhgodcamhibaaRows
import Derived.WalkKit
import Derived.ShutString
import Derived.Below
import Derived.SizedLaws
import Derived.Test.YtokhgodcamhibaaBr14
import Derived.Test.YtokhgodcamhibaaBr15
import Derived.Test.YtokhgodcamhibaaBr8
import Derived.Test.YtokhgodcamhibaaBr12
import Derived.Test.YtokhgodcamhibaaBr1
section
namespace Go.Proofs.Ytokhgodcamhibaa.Quot
open Go.RowKit Go.Proofs.YtokhgodcamhibaaW.PrintWords Go.Proofs.YtokhgodcamhibaaW.PrintLast Go.Proofs.YtokhgodcamhibaaW.PrintMore Go.Proofs.Ytokhgodcamhibaa.Law Go.Proofs.Ytokhgodcamhibaa.Fl Go.Proofs.Ytokhgodcamhibaa.FlI Go.Proofs.Ytokhgodcamhibaa.Num Go.Proofs.Ytokhgodcamhibaa.QFnExactDoBinary Go.Proofs.Ytokhgodcamhibaa.QFnQuotients Go.Proofs.Ytokhgodcamhibaa Ieee
set_option linter.unusedVariables false
set_option linter.unusedSimpArgs false
theorem i64_id {n : Int} (h0 : -9223372036854775808 ≤ n) (h1 : n ≤ 9223372036854775807) : IntKind.i64.wrap n = n := by rw [IntKind.wrap_i64]; omega
theorem divC {a b : Int} (hb : 0 < b) (h1 : (a * b).natAbs < 9007199254740992) (h2 : b.natAbs < 9007199254740992) (w : World) :
    Calls Try.prog 9 #[.int .u64 ((wh (a * b) : Nat) : Int), .int .u64 ((wh b : Nat) : Int)] w fun e w' => e = .returned (.int .u64 ((wh a : Nat) : Int)) ∧ Drawn0 w w' := by
  have C := FlI.div ((wh (a * b) : Nat) : Int) ((wh b : Nat) : Int) w
  rw [Int.toNat_natCast, Int.toNat_natCast, div_whole hb h1 h2] at C
  exact C
theorem remC {a b : Int} (hb : 0 < b) (h1 : a.natAbs < 9007199254740992) (h2 : b.natAbs < 9007199254740992) (w : World) :
    Calls Try.prog 11 #[.int .u64 ((wh a : Nat) : Int), .int .u64 ((wh b : Nat) : Int)] w fun e w' => e = .returned (.int .u64 (want a b)) ∧ Drawn0 w w' := by
  have C := FlI.rem (wh a) (wh b) (wh_lt h1) (wh_lt h2) w
  rw [rem_want hb h1 h2] at C
  exact C
theorem wholeC {n : Int} (h : n.natAbs < 9007199254740992) (w : World) : Calls Try.prog 10 #[.int .i64 n] w fun e w' => e = .returned (.int .u64 ((wh n : Nat) : Int)) ∧ Drawn0 w w' :=
  laws_whole.calls 9000 n _ w (whole_ok h)
theorem negC (w : World) : Calls Try.prog 12 #[.int .u64 0] w fun e w' => e = .returned (.int .u64 9223372036854775808) ∧ Below w.heap.size w w' := by
  refine (spec_Negate.calls 100 0 9223372036854775808 w (by decide +kernel)).mono ?_
  rintro e w1 ⟨rfl, hb⟩
  exact ⟨rfl, by first | exact hb | exact hb.below⟩
set_option maxHeartbeats 8000000 in
set_option maxRecDepth 100000 in
theorem wBig (A0 : Option Addr) (c0 : Nat) (l0 : List Int) (w : World) (hr0 : Kd.C (Kd.int .u8) w A0 l0.length l0) (hc0 : l0.length ≤ c0) (hbig : laws_big.f l0 = some true) :
    Calls Try.prog 3 #[.slice A0 l0.length c0] w fun e w' => e = .returned (.bool true) ∧ Below w.heap.size w w' := by
  have HB := Aside0.mk hbig; clear hbig
  have HR := Aside0.mk hr0; have HC := Aside0.mk hc0; clear hr0 hc0
  go_enter Try.func3, Try.ntmps3
  go_wp2_with fail
  refine (laws_big.calls A0 c0 l0 true _ HR.out HC.out HB.out).mono ?_; rintro e w1 ⟨rfl, hb⟩
  have M1 := Aside0.mk ((Mem.start w).step hb.below); clear hb
  go_wp2
  go_ret
  exact ⟨rfl, M1.out.below⟩
set_option maxHeartbeats 8000000 in
set_option maxRecDepth 100000 in
theorem wN (A0 : Option Addr) (c0 : Nat) (l0 r : List Int) (k : Nat) (p0 p1 p2 p3 a b xa xb xab xt xr : Int) (w : World) (hr0 : Kd.C (Kd.int .u8) w A0 l0.length l0) (hc0 : l0.length ≤ c0) (hbig : laws_big.f l0 = some false)
    (hp : spec_DrawPlaces.f k l0 = some r) (hl : r.length = 12) (q0 : el 0 r 0 = p0) (q1 : el 0 r 1 = p1) (q2 : el 0 r 2 = p2) (q3 : el 0 r 3 = p3)
    (b0 : 0 ≤ p0 ∧ p0 < 10000) (b1 : 0 ≤ p1 ∧ p1 < 10000) (b2 : 0 ≤ p2 ∧ p2 < 10000) (b3 : 0 ≤ p3 ∧ p3 < 10000) (b01 : 0 ≤ p0 * p1 ∧ p0 * p1 ≤ 100000000)
    (ha : p0 * p1 - p2 * 3000 = a) (hb : p3 + 1 = b) (bb : 0 < b ∧ b ≤ 10000) (ba : -30000000 ≤ a ∧ a ≤ 100000000) (bab : -1000000000000 ≤ a * b ∧ a * b ≤ 1000000000000)
    (cab : ∀ w, Calls Try.prog 10 #[.int .i64 (a * b)] w fun e w' => e = .returned (.int .u64 xab) ∧ Drawn0 w w') (cb : ∀ w, Calls Try.prog 10 #[.int .i64 b] w fun e w' => e = .returned (.int .u64 xb) ∧ Drawn0 w w')
    (ca : ∀ w, Calls Try.prog 10 #[.int .i64 a] w fun e w' => e = .returned (.int .u64 xa) ∧ Drawn0 w w') (ct : ∀ w, Calls Try.prog 10 #[.int .i64 (Int.tmod a b)] w fun e w' => e = .returned (.int .u64 xt) ∧ Drawn0 w w')
    (cd : ∀ w, Calls Try.prog 9 #[.int .u64 xab, .int .u64 xb] w fun e w' => e = .returned (.int .u64 xa) ∧ Drawn0 w w') (cr : ∀ w, Calls Try.prog 11 #[.int .u64 xa, .int .u64 xb] w fun e w' => e = .returned (.int .u64 xr) ∧ Drawn0 w w')
    (hcase : decide (a < 0) = true ∧ (Int.tmod a b == 0) = true ∧ xr = 9223372036854775808) :
    Calls Try.prog 3 #[.slice A0 l0.length c0] w fun e w' => e = .returned (.bool true) ∧ Below w.heap.size w w' := by
  have HB := Aside0.mk hbig; have HP := Aside0.mk hp; have HL := Aside0.mk hl; have Q0 := Aside0.mk q0; have Q1 := Aside0.mk q1; have Q2 := Aside0.mk q2; have Q3 := Aside0.mk q3; have HA := Aside0.mk ha; have HBB := Aside0.mk hb; have HCASE := Aside0.mk hcase
  have CAB := Aside0.mk cab; have CB := Aside0.mk cb; have CA := Aside0.mk ca; have CT := Aside0.mk ct; have CD := Aside0.mk cd; have CR := Aside0.mk cr
  clear hbig hp hl q0 q1 q2 q3 ha hb hcase cab cb ca ct cd cr
  have HR := Aside0.mk hr0; have HC := Aside0.mk hc0; clear hr0 hc0
  have b30 := b3.1; have b31 := b3.2; have b010 := b01.1; have b011 := b01.2; have b20 := b2.1; have b21 := b2.2
  go_enter Try.func3, Try.ntmps3
  go_wp2_with fail
  refine (laws_big.calls A0 c0 l0 false _ HR.out HC.out HB.out).mono ?_; rintro e w1 ⟨rfl, hb1⟩
  have M1 := Aside0.mk ((Mem.start w).step hb1.below); clear hb1
  go_wp2_with fail
  refine (spec_DrawPlaces.calls k A0 c0 l0 r _ (Kd.C_below HR.out M1.out.below) HC.out HP.out).mono ?_; rintro e w2 ⟨v, rfl, hr, hb2⟩
  obtain ⟨A, y, rfl, hy, hC⟩ := Kd.R_reads hr
  have M2 := Aside0.mk (M1.out.step hb2); clear hb2 hr M1
  obtain ⟨ad, rfl, z0⟩ := int_at hC 0 (by have := HL.out; omega)
  obtain ⟨ad1, had1, z1⟩ := int_at hC 1 (by have := HL.out; omega); cases had1
  obtain ⟨ad2, had2, z2⟩ := int_at hC 2 (by have := HL.out; omega); cases had2
  obtain ⟨ad3, had3, z3⟩ := int_at hC 3 (by have := HL.out; omega); cases had3
  rw [Q0.out] at z0; rw [Q1.out] at z1; rw [Q2.out] at z2; rw [Q3.out] at z3
  rw [show ad.add 0 = ad from rfl] at z0; rw [show ad.add 1 = ⟨ad.block, ad.off + 1, none⟩ from rfl] at z1; rw [show ad.add 2 = ⟨ad.block, ad.off + 2, none⟩ from rfl] at z2; rw [show ad.add 3 = ⟨ad.block, ad.off + 3, none⟩ from rfl] at z3
  clear hC
  have e12 : r.length = 12 := HL.out
  rw [e12]
  clear e12
  go_wp2_with fail

  obtain ⟨m1, m2, rfl⟩ := HCASE.out; clear HCASE
  go_region_held3 (fun W => W.cell? ad = some (.int .i64 p0) ∧ W.cell? ⟨ad.block, ad.off + 1, none⟩ = some (.int .i64 p1) ∧ W.cell? ⟨ad.block, ad.off + 2, none⟩ = some (.int .i64 p2)) (first | exact ⟨z0, z1, z2⟩ | exact ⟨pw_cell_below (below_drew1 (Below.refl _ _)) z0, pw_cell_below (below_drew1 (Below.refl _ _)) z1, pw_cell_below (below_drew1 (Below.refl _ _)) z2⟩) (fail)
  rw [i64_id (n := p0 * p1) (by omega) (by omega), i64_id (n := p2 * 3000) (by omega) (by omega), HA.out, i64_id (n := a) (by omega) (by omega)]
  have z5 : w2.drew.cell? ⟨ad.block, ad.off + 3, none⟩ = some (.int .i64 p3) := pw_cell_below (below_drew1 (Below.refl _ _)) z3
  have M3 := Aside0.mk M2.out.drew; clear M2 z0 z1 z2 z3
  generalize w2.drew = w3 at M3 z5 ⊢
  go_upto_region 6 with fail
  rw [HBB.out]
  clear z5 b30 b31 b3 b2 b20 b21 b010 b011 b01 b0 b1
  have bb1 := bb.1; have bb2 := bb.2; have ba1 := ba.1; have ba2 := ba.2; have bab1 := bab.1; have bab2 := bab.2; have bz : b ≠ 0 := by omega
  go_wp2_with fail
  refine (CAB.out _).mono ?_; rintro e x4 ⟨rfl, hb⟩
  have M4 := Aside0.mk (M3.out.step hb.below); clear hb M3
  go_wp2_with fail
  refine (CB.out _).mono ?_; rintro e x5 ⟨rfl, hb⟩
  have M5 := Aside0.mk (M4.out.step hb.below); clear hb M4
  go_wp2_with fail
  refine (CD.out _).mono ?_; rintro e x6 ⟨rfl, hb⟩
  have M6 := Aside0.mk (M5.out.step hb.below); clear hb M5
  go_wp2_with fail
  refine (CA.out _).mono ?_; rintro e x7 ⟨rfl, hb⟩
  have M7 := Aside0.mk (M6.out.step hb.below); clear hb M6
  go_wp2_with fail
  refine (CB.out _).mono ?_; rintro e x8 ⟨rfl, hb⟩
  have M8 := Aside0.mk (M7.out.step hb.below); clear hb M7
  go_wp2_with fail
  refine (CR.out _).mono ?_; rintro e x9 ⟨rfl, hb⟩
  have M9 := Aside0.mk (M8.out.step hb.below); clear hb M8
  go_wp2_with fail
  refine (CT.out _).mono ?_; rintro e x10 ⟨rfl, hb⟩
  have M10 := Aside0.mk (M9.out.step hb.below); clear hb M9
  go_wp2_with fail
  refine (negC _).mono ?_; rintro e x11 ⟨rfl, hb⟩
  have M11 := Aside0.mk (M10.out.step hb); clear hb M10
  go_wp2_with fail
  refine (CA.out _).mono ?_; rintro e x12 ⟨rfl, hb⟩
  have M12 := Aside0.mk (M11.out.step hb.below); clear hb M11
  go_wp2
  go_ret
  exact ⟨rfl, M12.out.below⟩
set_option maxHeartbeats 8000000 in
set_option maxRecDepth 100000 in
theorem wS (A0 : Option Addr) (c0 : Nat) (l0 r : List Int) (k : Nat) (p0 p1 p2 p3 a b xa xb xab xt xr : Int) (w : World) (hr0 : Kd.C (Kd.int .u8) w A0 l0.length l0) (hc0 : l0.length ≤ c0) (hbig : laws_big.f l0 = some false)
    (hp : spec_DrawPlaces.f k l0 = some r) (hl : r.length = 12) (q0 : el 0 r 0 = p0) (q1 : el 0 r 1 = p1) (q2 : el 0 r 2 = p2) (q3 : el 0 r 3 = p3)
    (b0 : 0 ≤ p0 ∧ p0 < 10000) (b1 : 0 ≤ p1 ∧ p1 < 10000) (b2 : 0 ≤ p2 ∧ p2 < 10000) (b3 : 0 ≤ p3 ∧ p3 < 10000) (b01 : 0 ≤ p0 * p1 ∧ p0 * p1 ≤ 100000000)
    (ha : p0 * p1 - p2 * 3000 = a) (hb : p3 + 1 = b) (bb : 0 < b ∧ b ≤ 10000) (ba : -30000000 ≤ a ∧ a ≤ 100000000) (bab : -1000000000000 ≤ a * b ∧ a * b ≤ 1000000000000)
    (cab : ∀ w, Calls Try.prog 10 #[.int .i64 (a * b)] w fun e w' => e = .returned (.int .u64 xab) ∧ Drawn0 w w') (cb : ∀ w, Calls Try.prog 10 #[.int .i64 b] w fun e w' => e = .returned (.int .u64 xb) ∧ Drawn0 w w')
    (ca : ∀ w, Calls Try.prog 10 #[.int .i64 a] w fun e w' => e = .returned (.int .u64 xa) ∧ Drawn0 w w') (ct : ∀ w, Calls Try.prog 10 #[.int .i64 (Int.tmod a b)] w fun e w' => e = .returned (.int .u64 xt) ∧ Drawn0 w w')
    (cd : ∀ w, Calls Try.prog 9 #[.int .u64 xab, .int .u64 xb] w fun e w' => e = .returned (.int .u64 xa) ∧ Drawn0 w w') (cr : ∀ w, Calls Try.prog 11 #[.int .u64 xa, .int .u64 xb] w fun e w' => e = .returned (.int .u64 xr) ∧ Drawn0 w w')
    (hcase : decide (a < 0) = true ∧ (Int.tmod a b == 0) = false ∧ xr = xt) :
    Calls Try.prog 3 #[.slice A0 l0.length c0] w fun e w' => e = .returned (.bool true) ∧ Below w.heap.size w w' := by
  have HB := Aside0.mk hbig; have HP := Aside0.mk hp; have HL := Aside0.mk hl; have Q0 := Aside0.mk q0; have Q1 := Aside0.mk q1; have Q2 := Aside0.mk q2; have Q3 := Aside0.mk q3; have HA := Aside0.mk ha; have HBB := Aside0.mk hb; have HCASE := Aside0.mk hcase
  have CAB := Aside0.mk cab; have CB := Aside0.mk cb; have CA := Aside0.mk ca; have CT := Aside0.mk ct; have CD := Aside0.mk cd; have CR := Aside0.mk cr
  clear hbig hp hl q0 q1 q2 q3 ha hb hcase cab cb ca ct cd cr
  have HR := Aside0.mk hr0; have HC := Aside0.mk hc0; clear hr0 hc0
  have b30 := b3.1; have b31 := b3.2; have b010 := b01.1; have b011 := b01.2; have b20 := b2.1; have b21 := b2.2
  go_enter Try.func3, Try.ntmps3
  go_wp2_with fail
  refine (laws_big.calls A0 c0 l0 false _ HR.out HC.out HB.out).mono ?_; rintro e w1 ⟨rfl, hb1⟩
  have M1 := Aside0.mk ((Mem.start w).step hb1.below); clear hb1
  go_wp2_with fail
  refine (spec_DrawPlaces.calls k A0 c0 l0 r _ (Kd.C_below HR.out M1.out.below) HC.out HP.out).mono ?_; rintro e w2 ⟨v, rfl, hr, hb2⟩
  obtain ⟨A, y, rfl, hy, hC⟩ := Kd.R_reads hr
  have M2 := Aside0.mk (M1.out.step hb2); clear hb2 hr M1
  obtain ⟨ad, rfl, z0⟩ := int_at hC 0 (by have := HL.out; omega)
  obtain ⟨ad1, had1, z1⟩ := int_at hC 1 (by have := HL.out; omega); cases had1
  obtain ⟨ad2, had2, z2⟩ := int_at hC 2 (by have := HL.out; omega); cases had2
  obtain ⟨ad3, had3, z3⟩ := int_at hC 3 (by have := HL.out; omega); cases had3
  rw [Q0.out] at z0; rw [Q1.out] at z1; rw [Q2.out] at z2; rw [Q3.out] at z3
  rw [show ad.add 0 = ad from rfl] at z0; rw [show ad.add 1 = ⟨ad.block, ad.off + 1, none⟩ from rfl] at z1; rw [show ad.add 2 = ⟨ad.block, ad.off + 2, none⟩ from rfl] at z2; rw [show ad.add 3 = ⟨ad.block, ad.off + 3, none⟩ from rfl] at z3
  clear hC
  have e12 : r.length = 12 := HL.out
  rw [e12]
  clear e12
  go_wp2_with fail

  obtain ⟨m1, m2, rfl⟩ := HCASE.out; clear HCASE
  go_region_held3 (fun W => W.cell? ad = some (.int .i64 p0) ∧ W.cell? ⟨ad.block, ad.off + 1, none⟩ = some (.int .i64 p1) ∧ W.cell? ⟨ad.block, ad.off + 2, none⟩ = some (.int .i64 p2)) (first | exact ⟨z0, z1, z2⟩ | exact ⟨pw_cell_below (below_drew1 (Below.refl _ _)) z0, pw_cell_below (below_drew1 (Below.refl _ _)) z1, pw_cell_below (below_drew1 (Below.refl _ _)) z2⟩) (fail)
  rw [i64_id (n := p0 * p1) (by omega) (by omega), i64_id (n := p2 * 3000) (by omega) (by omega), HA.out, i64_id (n := a) (by omega) (by omega)]
  have z5 : w2.drew.cell? ⟨ad.block, ad.off + 3, none⟩ = some (.int .i64 p3) := pw_cell_below (below_drew1 (Below.refl _ _)) z3
  have M3 := Aside0.mk M2.out.drew; clear M2 z0 z1 z2 z3
  generalize w2.drew = w3 at M3 z5 ⊢
  go_upto_region 6 with fail
  rw [HBB.out]
  clear z5 b30 b31 b3 b2 b20 b21 b010 b011 b01 b0 b1
  have bb1 := bb.1; have bb2 := bb.2; have ba1 := ba.1; have ba2 := ba.2; have bab1 := bab.1; have bab2 := bab.2; have bz : b ≠ 0 := by omega
  go_wp2_with fail
  refine (CAB.out _).mono ?_; rintro e x4 ⟨rfl, hb⟩
  have M4 := Aside0.mk (M3.out.step hb.below); clear hb M3
  go_wp2_with fail
  refine (CB.out _).mono ?_; rintro e x5 ⟨rfl, hb⟩
  have M5 := Aside0.mk (M4.out.step hb.below); clear hb M4
  go_wp2_with fail
  refine (CD.out _).mono ?_; rintro e x6 ⟨rfl, hb⟩
  have M6 := Aside0.mk (M5.out.step hb.below); clear hb M5
  go_wp2_with fail
  refine (CA.out _).mono ?_; rintro e x7 ⟨rfl, hb⟩
  have M7 := Aside0.mk (M6.out.step hb.below); clear hb M6
  go_wp2_with fail
  refine (CB.out _).mono ?_; rintro e x8 ⟨rfl, hb⟩
  have M8 := Aside0.mk (M7.out.step hb.below); clear hb M7
  go_wp2_with fail
  refine (CR.out _).mono ?_; rintro e x9 ⟨rfl, hb⟩
  have M9 := Aside0.mk (M8.out.step hb.below); clear hb M8
  go_wp2_with fail
  refine (CT.out _).mono ?_; rintro e x10 ⟨rfl, hb⟩
  have M10 := Aside0.mk (M9.out.step hb.below); clear hb M9
  go_wp2_with fail
  refine (CA.out _).mono ?_; rintro e x11 ⟨rfl, hb⟩
  have M11 := Aside0.mk (M10.out.step hb.below); clear hb M10
  go_wp2
  go_ret
  exact ⟨rfl, M11.out.below⟩
set_option maxHeartbeats 8000000 in
set_option maxRecDepth 100000 in
theorem wP (A0 : Option Addr) (c0 : Nat) (l0 r : List Int) (k : Nat) (p0 p1 p2 p3 a b xa xb xab xt xr : Int) (w : World) (hr0 : Kd.C (Kd.int .u8) w A0 l0.length l0) (hc0 : l0.length ≤ c0) (hbig : laws_big.f l0 = some false)
    (hp : spec_DrawPlaces.f k l0 = some r) (hl : r.length = 12) (q0 : el 0 r 0 = p0) (q1 : el 0 r 1 = p1) (q2 : el 0 r 2 = p2) (q3 : el 0 r 3 = p3)
    (b0 : 0 ≤ p0 ∧ p0 < 10000) (b1 : 0 ≤ p1 ∧ p1 < 10000) (b2 : 0 ≤ p2 ∧ p2 < 10000) (b3 : 0 ≤ p3 ∧ p3 < 10000) (b01 : 0 ≤ p0 * p1 ∧ p0 * p1 ≤ 100000000)
    (ha : p0 * p1 - p2 * 3000 = a) (hb : p3 + 1 = b) (bb : 0 < b ∧ b ≤ 10000) (ba : -30000000 ≤ a ∧ a ≤ 100000000) (bab : -1000000000000 ≤ a * b ∧ a * b ≤ 1000000000000)
    (cab : ∀ w, Calls Try.prog 10 #[.int .i64 (a * b)] w fun e w' => e = .returned (.int .u64 xab) ∧ Drawn0 w w') (cb : ∀ w, Calls Try.prog 10 #[.int .i64 b] w fun e w' => e = .returned (.int .u64 xb) ∧ Drawn0 w w')
    (ca : ∀ w, Calls Try.prog 10 #[.int .i64 a] w fun e w' => e = .returned (.int .u64 xa) ∧ Drawn0 w w') (ct : ∀ w, Calls Try.prog 10 #[.int .i64 (Int.tmod a b)] w fun e w' => e = .returned (.int .u64 xt) ∧ Drawn0 w w')
    (cd : ∀ w, Calls Try.prog 9 #[.int .u64 xab, .int .u64 xb] w fun e w' => e = .returned (.int .u64 xa) ∧ Drawn0 w w') (cr : ∀ w, Calls Try.prog 11 #[.int .u64 xa, .int .u64 xb] w fun e w' => e = .returned (.int .u64 xr) ∧ Drawn0 w w')
    (hcase : decide (a < 0) = false ∧ xr = xt) :
    Calls Try.prog 3 #[.slice A0 l0.length c0] w fun e w' => e = .returned (.bool true) ∧ Below w.heap.size w w' := by
  have HB := Aside0.mk hbig; have HP := Aside0.mk hp; have HL := Aside0.mk hl; have Q0 := Aside0.mk q0; have Q1 := Aside0.mk q1; have Q2 := Aside0.mk q2; have Q3 := Aside0.mk q3; have HA := Aside0.mk ha; have HBB := Aside0.mk hb; have HCASE := Aside0.mk hcase
  have CAB := Aside0.mk cab; have CB := Aside0.mk cb; have CA := Aside0.mk ca; have CT := Aside0.mk ct; have CD := Aside0.mk cd; have CR := Aside0.mk cr
  clear hbig hp hl q0 q1 q2 q3 ha hb hcase cab cb ca ct cd cr
  have HR := Aside0.mk hr0; have HC := Aside0.mk hc0; clear hr0 hc0
  have b30 := b3.1; have b31 := b3.2; have b010 := b01.1; have b011 := b01.2; have b20 := b2.1; have b21 := b2.2
  go_enter Try.func3, Try.ntmps3
  go_wp2_with fail
  refine (laws_big.calls A0 c0 l0 false _ HR.out HC.out HB.out).mono ?_; rintro e w1 ⟨rfl, hb1⟩
  have M1 := Aside0.mk ((Mem.start w).step hb1.below); clear hb1
  go_wp2_with fail
  refine (spec_DrawPlaces.calls k A0 c0 l0 r _ (Kd.C_below HR.out M1.out.below) HC.out HP.out).mono ?_; rintro e w2 ⟨v, rfl, hr, hb2⟩
  obtain ⟨A, y, rfl, hy, hC⟩ := Kd.R_reads hr
  have M2 := Aside0.mk (M1.out.step hb2); clear hb2 hr M1
  obtain ⟨ad, rfl, z0⟩ := int_at hC 0 (by have := HL.out; omega)
  obtain ⟨ad1, had1, z1⟩ := int_at hC 1 (by have := HL.out; omega); cases had1
  obtain ⟨ad2, had2, z2⟩ := int_at hC 2 (by have := HL.out; omega); cases had2
  obtain ⟨ad3, had3, z3⟩ := int_at hC 3 (by have := HL.out; omega); cases had3
  rw [Q0.out] at z0; rw [Q1.out] at z1; rw [Q2.out] at z2; rw [Q3.out] at z3
  rw [show ad.add 0 = ad from rfl] at z0; rw [show ad.add 1 = ⟨ad.block, ad.off + 1, none⟩ from rfl] at z1; rw [show ad.add 2 = ⟨ad.block, ad.off + 2, none⟩ from rfl] at z2; rw [show ad.add 3 = ⟨ad.block, ad.off + 3, none⟩ from rfl] at z3
  clear hC
  have e12 : r.length = 12 := HL.out
  rw [e12]
  clear e12
  go_wp2_with fail

  obtain ⟨m1, rfl⟩ := HCASE.out; clear HCASE
  go_region_held3 (fun W => W.cell? ad = some (.int .i64 p0) ∧ W.cell? ⟨ad.block, ad.off + 1, none⟩ = some (.int .i64 p1) ∧ W.cell? ⟨ad.block, ad.off + 2, none⟩ = some (.int .i64 p2)) (first | exact ⟨z0, z1, z2⟩ | exact ⟨pw_cell_below (below_drew1 (Below.refl _ _)) z0, pw_cell_below (below_drew1 (Below.refl _ _)) z1, pw_cell_below (below_drew1 (Below.refl _ _)) z2⟩) (fail)
  rw [i64_id (n := p0 * p1) (by omega) (by omega), i64_id (n := p2 * 3000) (by omega) (by omega), HA.out, i64_id (n := a) (by omega) (by omega)]
  have z5 : w2.drew.cell? ⟨ad.block, ad.off + 3, none⟩ = some (.int .i64 p3) := pw_cell_below (below_drew1 (Below.refl _ _)) z3
  have M3 := Aside0.mk M2.out.drew; clear M2 z0 z1 z2 z3
  generalize w2.drew = w3 at M3 z5 ⊢
  go_upto_region 6 with fail
  rw [HBB.out]
  clear z5 b30 b31 b3 b2 b20 b21 b010 b011 b01 b0 b1
  have bb1 := bb.1; have bb2 := bb.2; have ba1 := ba.1; have ba2 := ba.2; have bab1 := bab.1; have bab2 := bab.2; have bz : b ≠ 0 := by omega
  go_wp2_with fail
  refine (CAB.out _).mono ?_; rintro e x4 ⟨rfl, hb⟩
  have M4 := Aside0.mk (M3.out.step hb.below); clear hb M3
  go_wp2_with fail
  refine (CB.out _).mono ?_; rintro e x5 ⟨rfl, hb⟩
  have M5 := Aside0.mk (M4.out.step hb.below); clear hb M4
  go_wp2_with fail
  refine (CD.out _).mono ?_; rintro e x6 ⟨rfl, hb⟩
  have M6 := Aside0.mk (M5.out.step hb.below); clear hb M5
  go_wp2_with fail
  refine (CA.out _).mono ?_; rintro e x7 ⟨rfl, hb⟩
  have M7 := Aside0.mk (M6.out.step hb.below); clear hb M6
  go_wp2_with fail
  refine (CB.out _).mono ?_; rintro e x8 ⟨rfl, hb⟩
  have M8 := Aside0.mk (M7.out.step hb.below); clear hb M7
  go_wp2_with fail
  refine (CR.out _).mono ?_; rintro e x9 ⟨rfl, hb⟩
  have M9 := Aside0.mk (M8.out.step hb.below); clear hb M8
  go_wp2_with fail
  refine (CT.out _).mono ?_; rintro e x10 ⟨rfl, hb⟩
  have M10 := Aside0.mk (M9.out.step hb.below); clear hb M9
  go_wp2_with fail
  refine (CA.out _).mono ?_; rintro e x11 ⟨rfl, hb⟩
  have M11 := Aside0.mk (M10.out.step hb.below); clear hb M10
  go_wp2
  go_ret
  exact ⟨rfl, M11.out.below⟩
theorem el_in {l : List Int} {j : Nat} (h : j < l.length) : el 0 l j ∈ l := by
  have e : el 0 l j = l[j] := by simp [el, List.getD, h]
  rw [e]
  exact List.getElem_mem h
theorem mul_ok {x y X Y : Int} (hx : x.natAbs ≤ X.natAbs) (hy : y.natAbs ≤ Y.natAbs) : (x * y).natAbs ≤ X.natAbs * Y.natAbs := by
  rw [Int.natAbs_mul]
  exact Nat.mul_le_mul hx hy
theorem law {q : Prop} (A0 : Option Addr) (c0 : Nat) (l0 : List Int) (w : World) (hr0 : Kd.C (Kd.int .u8) w A0 l0.length l0) (hc0 : l0.length ≤ c0) (g : q) :
    Calls Try.prog 3 #[.slice A0 l0.length c0] w fun e w' => e = .returned (.bool true) ∧ Below w.heap.size w w' := by
  by_cases hbig : (l0.length : Int) > 1048576
  · exact wBig A0 c0 l0 w hr0 hc0 (by unfold laws_big.f; rw [decide_eq_true hbig])
  · obtain ⟨k, r, hp, hl, hall⟩ := places_ok l0 (by omega)
    have hb0 : laws_big.f l0 = some false := by unfold laws_big.f; rw [decide_eq_false hbig]
    have b0 := hall _ (el_in (l := r) (j := 0) (by omega))
    have b1 := hall _ (el_in (l := r) (j := 1) (by omega))
    have b2 := hall _ (el_in (l := r) (j := 2) (by omega))
    have b3 := hall _ (el_in (l := r) (j := 3) (by omega))
    obtain ⟨p0, q0⟩ : ∃ p, el 0 r 0 = p := ⟨_, rfl⟩
    obtain ⟨p1, q1⟩ : ∃ p, el 0 r 1 = p := ⟨_, rfl⟩
    obtain ⟨p2, q2⟩ : ∃ p, el 0 r 2 = p := ⟨_, rfl⟩
    obtain ⟨p3, q3⟩ : ∃ p, el 0 r 3 = p := ⟨_, rfl⟩
    rw [q0] at b0; rw [q1] at b1; rw [q2] at b2; rw [q3] at b3
    have m01 : 0 ≤ p0 * p1 := Int.mul_nonneg b0.1 b1.1
    have n01 := mul_ok (x := p0) (y := p1) (X := 10000) (Y := 10000) (by omega) (by omega)
    have b01 : 0 ≤ p0 * p1 ∧ p0 * p1 ≤ 100000000 := ⟨m01, by have : (10000 : Int).natAbs * (10000 : Int).natAbs = 100000000 := rfl; omega⟩
    obtain ⟨a, ha⟩ : ∃ a, p0 * p1 - p2 * 3000 = a := ⟨_, rfl⟩
    obtain ⟨b, hb⟩ : ∃ b, p3 + 1 = b := ⟨_, rfl⟩
    have bb : 0 < b ∧ b ≤ 10000 := by omega
    have ba : -30000000 ≤ a ∧ a ≤ 100000000 := by omega
    have nab := mul_ok (x := a) (y := b) (X := 100000000) (Y := 10000) (by omega) (by omega)
    have nab2 : (a * b).natAbs ≤ 1000000000000 := by have : (100000000 : Int).natAbs * (10000 : Int).natAbs = 1000000000000 := rfl; omega
    have bab : -1000000000000 ≤ a * b ∧ a * b ≤ 1000000000000 := by omega
    have t1 : (Int.tmod a b).natAbs ≤ a.natAbs := by rw [Int.natAbs_tmod]; exact Nat.mod_le _ _
    have h1 : (a * b).natAbs < 9007199254740992 := by omega
    have h2 : b.natAbs < 9007199254740992 := by omega
    have h3 : a.natAbs < 9007199254740992 := by omega
    have h4 : (Int.tmod a b).natAbs < 9007199254740992 := by omega
    have C := remC (a := a) (b := b) bb.1 h3 h2
    by_cases c : a < 0
    · by_cases z : Int.tmod a b = 0
      · exact wN A0 c0 l0 r k p0 p1 p2 p3 a b _ _ _ _ _ w hr0 hc0 hb0 hp hl q0 q1 q2 q3 b0 b1 b2 b3 b01 ha hb bb ba bab (wholeC h1) (wholeC h2) (wholeC h3) (wholeC h4) (divC bb.1 h1 h2) C ⟨decide_eq_true c, beq_iff_eq.2 z, by unfold want; rw [if_pos ⟨c, z⟩]⟩
      · exact wS A0 c0 l0 r k p0 p1 p2 p3 a b _ _ _ _ _ w hr0 hc0 hb0 hp hl q0 q1 q2 q3 b0 b1 b2 b3 b01 ha hb bb ba bab (wholeC h1) (wholeC h2) (wholeC h3) (wholeC h4) (divC bb.1 h1 h2) C ⟨decide_eq_true c, beq_eq_false_iff_ne.2 z, by unfold want; rw [if_neg (fun h => z h.2)]⟩
    · exact wP A0 c0 l0 r k p0 p1 p2 p3 a b _ _ _ _ _ w hr0 hc0 hb0 hp hl q0 q1 q2 q3 b0 b1 b2 b3 b01 ha hb bb ba bab (wholeC h1) (wholeC h2) (wholeC h3) (wholeC h4) (divC bb.1 h1 h2) C ⟨decide_eq_false c, by unfold want; rw [if_neg (fun h => c h.1)]⟩
end Go.Proofs.Ytokhgodcamhibaa.Quot
end
section
namespace Go.Proofs.Ytokhgodcamhibaa.Dob
open Go.RowKit Go.Proofs.YtokhgodcamhibaaW.PrintWords Go.Proofs.YtokhgodcamhibaaW.PrintLast Go.Proofs.YtokhgodcamhibaaW.PrintMore Go.Proofs.Ytokhgodcamhibaa.Law Go.Proofs.Ytokhgodcamhibaa.Fl Go.Proofs.Ytokhgodcamhibaa.FlI Go.Proofs.Ytokhgodcamhibaa.Num Go.Proofs.Ytokhgodcamhibaa.QFnExactDoBinary Go.Proofs.Ytokhgodcamhibaa Ieee
set_option linter.unusedVariables false
set_option linter.unusedSimpArgs false
theorem eqA (d : Nat) (w : World) (x0 y0 : Int) (x1 y1 : Int) (x2 y2 : ByteArray) (x3 y3 : Int) :
    (Op.equalIn (d + 2) 37 (.agg #[.int .i64 x0, .int .u64 x1, .string x2, .int .i64 x3]) (.agg #[.int .i64 y0, .int .u64 y1, .string y2, .int .i64 y3])).run Try.prog w = .ok (x0 == y0 && (x1 == y1 && (x2.toList == y2.toList && (x3 == y3)))) w := by
  refine eqA_of Try.underlying37 (by kernel_rfl) ?_
  refine eqf_cons (by rfl) (by go_simp; rfl) (by go_simp; rfl) (by go_simp) ?_
  refine eqf_cons (by rfl) (by go_simp; rfl) (by go_simp; rfl) (by go_simp) ?_
  refine eqf_cons (by rfl) (by go_simp; rfl) (by go_simp; rfl) (by go_simp) ?_
  exact eqf_last (by rfl) (by go_simp; rfl) (by go_simp; rfl) (by go_simp)
/-- A truth as a number, as a value. -/
def bn (b : Bool) : Int := if b = true then 1 else 0
end Go.Proofs.Ytokhgodcamhibaa.Dob
end
section
namespace Go.Proofs.Ytokhgodcamhibaa.QFnExactDoBinary
open Go.RowKit Go.Proofs.YtokhgodcamhibaaW.PrintWords Go.Proofs.YtokhgodcamhibaaW.PrintLast Go.Proofs.YtokhgodcamhibaaW.PrintMore
attribute [local go_sem] max_two min_two max_three min_three max_four min_four run_field34_0 max2_mx min2_mn   -- for this text's walks alone
set_option linter.unusedVariables false
set_option linter.unusedSimpArgs false
def spec_Less.f (k : Nat) (a0 : Int) (a1 : Int) : Option (Bool) := (spec_l03Nan.f k a0).bind fun t174 => (if t174 = true then (some false) else ((spec_l03Nan.f k a1).bind fun t175 => (if t175 = true then (some false) else ((spec_l03Key.f k a0).bind fun t176 => ((spec_l03Key.f k a1).bind fun t177 => (some (decide (t176 < t177))))))))
theorem spec_Less.mono : ∀ a0 a1 k, LeO (spec_Less.f k a0 a1) (spec_Less.f (k + 1) a0 a1) := by
  intro a0 a1 k
  unfold spec_Less.f
  repeat' first
      | (with_reducible exact spec_l03Key.mono _ _)
      | (with_reducible exact spec_l03Nan.mono _ _)
      | (with_reducible exact LeO.refl _)
      | (with_reducible exact LeO.none _)
      | (with_reducible refine LeO.ite ?_ ?_)
      | (with_reducible refine LeO.bind ?_ (fun _ => ?_))
      | exact spec_l03Key.mono _ _
      | exact spec_l03Nan.mono _ _
      | exact LeO.none _
      | refine LeO.ite ?_ ?_
      | refine LeO.bind ?_ (fun _ => ?_)
set_option maxHeartbeats 8000000 in
set_option maxRecDepth 100000 in
theorem spec_Less.calls (k : Nat) (a0 : Int) (a1 : Int) (r : Bool) (w : World) (h : spec_Less.f k a0 a1 = some r) :
    Calls Try.prog 19 #[.int .u64 a0, .int .u64 a1] w fun e w' => e = .returned (.bool r) ∧ Below w.heap.size w w' := by
  have HB := Aside0.mk (Below.refl w.heap.size w)
  have H : ((spec_l03Nan.f k a0).bind fun t174 => (if t174 = true then (some false) else ((spec_l03Nan.f k a1).bind fun t175 => (if t175 = true then (some false) else ((spec_l03Key.f k a0).bind fun t176 => ((spec_l03Key.f k a1).bind fun t177 => (some (decide (t176 < t177))))))))) = some r := h
  clear h
  replace H := Option.bind_eq_some_iff.mp H
  obtain ⟨t174, A30, H⟩ := H
  replace H : (if t174 = true then (some false) else ((spec_l03Nan.f k a1).bind fun t175 => (if t175 = true then (some false) else ((spec_l03Key.f k a0).bind fun t176 => ((spec_l03Key.f k a1).bind fun t177 => (some (decide (t176 < t177)))))))) = some r := H
  have A3 := Aside0.mk A30
  clear A30
  by_cases c4 : t174 = true
  · subst c4
    have H1 : (some false) = some r := by rw [if_pos rfl] at H; exact H
    clear H
    have H := H1
    clear H1
    obtain rfl := Option.some.inj H
    go_enter Try.func19, Try.ntmps19
    go_wp2_with (first | ((with_reducible refine gate_callee (f := 36) rfl ?_); refine goesL_ (some 6) rfl rfl Try.func36 (by kernel_rfl) rfl #[.int .u64 a0] rfl (by (try simp only [List.map_toArray, List.map_cons, List.map_nil]); first | done | rfl | (simp only [List.length_drop, List.length_take]; rfl)) ?_; (with_reducible refine (spec_l03Nan.calls k a0 true _ A3.out).mono ?_); rintro e w5 ⟨rfl, hb⟩; refine ⟨_, rfl, ?_⟩; have n0_ := Aside0.mk (below_step (by repeat (first | (with_reducible first | exact HB.out | apply below_alloc | apply pw_below_drewN | apply below_drew1) | exact HB.out)) hb); clear HB; have HB := n0_; clear n0_; (try clear hb); (try clear hb2); (try clear hk); (try clear hi)))
    go_ret
    exact ⟨by first | rfl | (simp; done) | (simp [errW_none, errW_some] <;> rfl) | (simp [*, errW_none, errW_some] <;> rfl) | (simp [bne, List.isEmpty_iff]; done) | (rw [Bool.eq_iff_iff]; simp), by repeat (first | (with_reducible first | exact HB.out | apply below_alloc | apply pw_below_drewN | apply below_drew1) | exact HB.out)⟩
  · replace c4 := Bool.eq_false_iff.mpr c4
    subst c4
    have H1 : ((spec_l03Nan.f k a1).bind fun t175 => (if t175 = true then (some false) else ((spec_l03Key.f k a0).bind fun t176 => ((spec_l03Key.f k a1).bind fun t177 => (some (decide (t176 < t177))))))) = some r := by rw [if_neg (show ¬ (false = true) by decide)] at H; exact H
    clear H
    have H := H1
    clear H1
    replace H := Option.bind_eq_some_iff.mp H
    obtain ⟨t175, A60, H⟩ := H
    replace H : (if t175 = true then (some false) else ((spec_l03Key.f k a0).bind fun t176 => ((spec_l03Key.f k a1).bind fun t177 => (some (decide (t176 < t177)))))) = some r := H
    have A6 := Aside0.mk A60
    clear A60
    by_cases c7 : t175 = true
    · subst c7
      have H1 : (some false) = some r := by rw [if_pos rfl] at H; exact H
      clear H
      have H := H1
      clear H1
      obtain rfl := Option.some.inj H
      go_enter Try.func19, Try.ntmps19
      go_wp2_with (first | ((with_reducible refine gate_callee (f := 36) rfl ?_); refine goesL_ (some 6) rfl rfl Try.func36 (by kernel_rfl) rfl #[.int .u64 a0] rfl (by (try simp only [List.map_toArray, List.map_cons, List.map_nil]); first | done | rfl | (simp only [List.length_drop, List.length_take]; rfl)) ?_; (with_reducible refine (spec_l03Nan.calls k a0 false _ A3.out).mono ?_); rintro e w8 ⟨rfl, hb⟩; refine ⟨_, rfl, ?_⟩; have n0_ := Aside0.mk (below_step (by repeat (first | (with_reducible first | exact HB.out | apply below_alloc | apply pw_below_drewN | apply below_drew1) | exact HB.out)) hb); clear HB; have HB := n0_; clear n0_; (try clear hb); (try clear hb2); (try clear hk); (try clear hi)) | (go_at_call 36; (with_reducible refine (spec_l03Nan.calls k a1 true _ A6.out).mono ?_); rintro e w9 ⟨rfl, hb⟩; have n0_ := Aside0.mk (below_step (by repeat (first | (with_reducible first | exact HB.out | apply below_alloc | apply pw_below_drewN | apply below_drew1) | exact HB.out)) hb); clear HB; have HB := n0_; clear n0_; (try clear hb); (try clear hb2); (try clear hk); (try clear hi)))
      go_ret
      exact ⟨by first | rfl | (simp; done) | (simp [errW_none, errW_some] <;> rfl) | (simp [*, errW_none, errW_some] <;> rfl) | (simp [bne, List.isEmpty_iff]; done) | (rw [Bool.eq_iff_iff]; simp), by repeat (first | (with_reducible first | exact HB.out | apply below_alloc | apply pw_below_drewN | apply below_drew1) | exact HB.out)⟩
    · replace c7 := Bool.eq_false_iff.mpr c7
      subst c7
      have H1 : ((spec_l03Key.f k a0).bind fun t176 => ((spec_l03Key.f k a1).bind fun t177 => (some (decide (t176 < t177))))) = some r := by rw [if_neg (show ¬ (false = true) by decide)] at H; exact H
      clear H
      have H := H1
      clear H1
      replace H := Option.bind_eq_some_iff.mp H
      obtain ⟨t176, A100, H⟩ := H
      replace H : ((spec_l03Key.f k a1).bind fun t177 => (some (decide (t176 < t177)))) = some r := H
      have A10 := Aside0.mk A100
      clear A100
      replace H := Option.bind_eq_some_iff.mp H
      obtain ⟨t177, A110, H⟩ := H
      replace H : (some (decide (t176 < t177))) = some r := H
      have A11 := Aside0.mk A110
      clear A110
      obtain rfl := Option.some.inj H
      go_enter Try.func19, Try.ntmps19
      go_wp2_with (first | ((with_reducible refine gate_callee (f := 36) rfl ?_); refine goesL_ (some 6) rfl rfl Try.func36 (by kernel_rfl) rfl #[.int .u64 a0] rfl (by (try simp only [List.map_toArray, List.map_cons, List.map_nil]); first | done | rfl | (simp only [List.length_drop, List.length_take]; rfl)) ?_; (with_reducible refine (spec_l03Nan.calls k a0 false _ A3.out).mono ?_); rintro e w12 ⟨rfl, hb⟩; refine ⟨_, rfl, ?_⟩; have n0_ := Aside0.mk (below_step (by repeat (first | (with_reducible first | exact HB.out | apply below_alloc | apply pw_below_drewN | apply below_drew1) | exact HB.out)) hb); clear HB; have HB := n0_; clear n0_; (try clear hb); (try clear hb2); (try clear hk); (try clear hi)) | (go_at_call 36; (with_reducible refine (spec_l03Nan.calls k a1 false _ A6.out).mono ?_); rintro e w13 ⟨rfl, hb⟩; have n0_ := Aside0.mk (below_step (by repeat (first | (with_reducible first | exact HB.out | apply below_alloc | apply pw_below_drewN | apply below_drew1) | exact HB.out)) hb); clear HB; have HB := n0_; clear n0_; (try clear hb); (try clear hb2); (try clear hk); (try clear hi)) | (go_at_call 38; (with_reducible refine (spec_l03Key.calls k a0 t176 _ A10.out).mono ?_); rintro e w' ⟨rfl, ⟨nd, rfl⟩⟩) | (go_at_call 38; (with_reducible refine (spec_l03Key.calls k a1 t177 _ A11.out).mono ?_); rintro e w' ⟨rfl, ⟨nd, rfl⟩⟩))
      go_ret
      exact ⟨by first | rfl | (simp; done) | (simp [errW_none, errW_some] <;> rfl) | (simp [*, errW_none, errW_some] <;> rfl) | (simp [bne, List.isEmpty_iff]; done) | (rw [Bool.eq_iff_iff]; simp), by repeat (first | (with_reducible first | exact HB.out | apply below_alloc | apply pw_below_drewN | apply below_drew1) | exact HB.out)⟩
end Go.Proofs.Ytokhgodcamhibaa.QFnExactDoBinary
end
section
namespace Go.Proofs.Ytokhgodcamhibaa.Dob
open Go.RowKit Go.Proofs.YtokhgodcamhibaaW.PrintWords Go.Proofs.YtokhgodcamhibaaW.PrintLast Go.Proofs.YtokhgodcamhibaaW.PrintMore Go.Proofs.Ytokhgodcamhibaa.Law Go.Proofs.Ytokhgodcamhibaa.Fl Go.Proofs.Ytokhgodcamhibaa.FlI Go.Proofs.Ytokhgodcamhibaa.Num Go.Proofs.Ytokhgodcamhibaa.QFnExactDoBinary Go.Proofs.Ytokhgodcamhibaa Go.Proofs.Ytokhgodcamhibaa.Rnd Ieee
set_option linter.unusedVariables false
set_option linter.unusedSimpArgs false
theorem nat_of {x : Int} (h : 0 ≤ x ∧ x < 18446744073709551616) : ∃ X : Nat, x = X ∧ X < 18446744073709551616 := ⟨x.toNat, by omega, by omega⟩
theorem nan_k {x : Int} (h0 : 0 ≤ x) (h1 : x < 18446744073709551616) {k : Nat} (hk : 100 ≤ k) : spec_l03Nan.f k x = some (isNan x) := by
  unfold spec_l03Nan.f
  obtain ⟨X, rfl, h2⟩ := nat_of ⟨h0, h1⟩
  rw [sparts_k h2 hk, Option.bind_some, PN_nan h0]
/-- The reference's key of a number, as a whole number. -/
def keyI (x : Int) : Int := if x ≥ 9223372036854775808 then -(x - 9223372036854775808) else x
theorem key_k {x : Int} (h0 : 0 ≤ x) (h1 : x < 18446744073709551616) {k : Nat} (hk : 100 ≤ k) : spec_l03Key.f k x = some (keyI x) := by
  unfold spec_l03Key.f keyI
  rw [pow_k hk pow63]
  simp only [Option.bind_some]
  by_cases h : x ≥ 9223372036854775808
  · rw [if_pos h, if_pos h, u64_id (by omega) (by omega), wrap64_id (n := x - 9223372036854775808) (by omega) (by omega), wrap64_id (by omega) (by omega)]
  · rw [if_neg h, if_neg h, wrap64_id (by omega) (by omega)]
theorem key_keyN {x : Int} (h0 : 0 ≤ x) (h1 : x < 18446744073709551616) : keyI x = Float.keyN x.toNat := by
  unfold keyI Float.keyN Float.sg
  by_cases h : x ≥ 9223372036854775808
  · have e : (x.toNat / 9223372036854775808 % 2 == 1) = true := by rw [beq_iff_eq]; omega
    rw [if_pos h, e]
    simp only [if_true]
    omega
  · have e : (x.toNat / 9223372036854775808 % 2 == 1) = false := by rw [beq_eq_false_iff_ne]; omega
    rw [if_neg h, e]
    simp only [Bool.false_eq_true, if_false]
    omega
theorem nan_nanN {x : Int} (h0 : 0 ≤ x) : isNan x = Float.nanN x.toNat := by
  unfold isNan Float.nanN
  rw [decide_eq_decide]
  omega
/-- How two numbers stand, told by their keys. -/
theorem ord_int {x y : Int} (hx : 0 ≤ x ∧ x < 18446744073709551616) (hy : 0 ≤ y ∧ y < 18446744073709551616) : double.order x.toNat y.toNat = if isNan x = true ∨ isNan y = true then none else some (compare (keyI x) (keyI y)) := by
  rw [key_keyN hx.1 hx.2, key_keyN hy.1 hy.2, nan_nanN hx.1, nan_nanN hy.1]
  cases hx : Float.nanN x.toNat
  · cases hy : Float.nanN y.toNat
    · rw [if_neg (by simp)]; exact Float.order_key hx hy
    · rw [if_pos (.inr rfl)]; exact Float.order_nan_right _ hy
  · rw [if_pos (.inl rfl)]; exact Float.order_nan_left _ hx
theorem specLess {k : Nat} (hk : 100 ≤ k) {x y : Int} (hx : 0 ≤ x ∧ x < 18446744073709551616) (hy : 0 ≤ y ∧ y < 18446744073709551616) : spec_Less.f k x y = some (double.order x.toNat y.toNat == some .lt) := by
  unfold spec_Less.f
  rw [nan_k hx.1 hx.2 hk, nan_k hy.1 hy.2 hk, key_k hx.1 hx.2 hk, key_k hy.1 hy.2 hk, ord_int hx hy]
  simp only [Option.bind_some]
  cases isNan x
  · cases isNan y
    · simp only [Bool.false_eq_true, if_false, or_self, some_cmp, cmp_lt]
    · simp
  · simp
end Go.Proofs.Ytokhgodcamhibaa.Dob
end
section
namespace Go.Proofs.Ytokhgodcamhibaa.Root
open Go.RowKit Go.Proofs.YtokhgodcamhibaaW.PrintWords Go.Proofs.YtokhgodcamhibaaW.PrintLast Go.Proofs.YtokhgodcamhibaaW.PrintMore Go.Proofs.Ytokhgodcamhibaa.Law Go.Proofs.Ytokhgodcamhibaa.Fl Go.Proofs.Ytokhgodcamhibaa.FlI Go.Proofs.Ytokhgodcamhibaa.Num Go.Proofs.Ytokhgodcamhibaa.Quot Go.Proofs.Ytokhgodcamhibaa.QFnExactDoBinary Go.Proofs.Ytokhgodcamhibaa.QFnQuotients Go.Proofs.Ytokhgodcamhibaa.QFnRoots Go.Proofs.Ytokhgodcamhibaa Go.Proofs.Ytokhgodcamhibaa.Rnd Ieee
set_option linter.unusedVariables false
set_option linter.unusedSimpArgs false
set_option maxHeartbeats 8000000 in
set_option maxRecDepth 100000 in
theorem wBig (A0 : Option Addr) (c0 : Nat) (l0 : List Int) (w : World) (hr0 : Kd.C (Kd.int .u8) w A0 l0.length l0) (hc0 : l0.length ≤ c0) (hbig : laws_big.f l0 = some true) :
    Calls Try.prog 4 #[.slice A0 l0.length c0] w fun e w' => e = .returned (.bool true) ∧ Below w.heap.size w w' := by
  have HB := Aside0.mk hbig; clear hbig
  have HR := Aside0.mk hr0; have HC := Aside0.mk hc0; clear hr0 hc0
  go_enter Try.func4, Try.ntmps4
  go_wp2_with fail
  refine (laws_big.calls A0 c0 l0 true _ HR.out HC.out HB.out).mono ?_; rintro e w1 ⟨rfl, hb⟩
  have M1 := Aside0.mk ((Mem.start w).step hb.below); clear hb
  go_wp2
  go_ret
  exact ⟨rfl, M1.out.below⟩
set_option maxHeartbeats 8000000 in
set_option maxRecDepth 100000 in
theorem wE1 (A0 : Option Addr) (c0 : Nat) (l0 r : List Int) (k : Nat) (p0 p1 n xn xnn a b c x s q1 q3 q4 : Int) (q2 : Bool) (w : World) (hr0 : Kd.C (Kd.int .u8) w A0 l0.length l0) (hc0 : l0.length ≤ c0) (hbig : laws_big.f l0 = some false)
    (hp : spec_DrawPlaces.f k l0 = some r) (hl : r.length = 12) (q0 : el 0 r 0 = p0) (q01 : el 0 r 1 = p1) (b0 : 0 ≤ p0 ∧ p0 < 10000) (b1 : 0 ≤ p1 ∧ p1 < 10000) (hn : p0 * 900 + p1 = n) (bn : 0 ≤ n ∧ n ≤ 10000000) (bnn : 0 ≤ n * n ∧ n * n ≤ 100000000000000)
    (cnn : ∀ w, Calls Try.prog 10 #[.int .i64 (n * n)] w fun e w' => e = .returned (.int .u64 xnn) ∧ Below w.heap.size w w') (cn : ∀ w, Calls Try.prog 10 #[.int .i64 n] w fun e w' => e = .returned (.int .u64 xn) ∧ Below w.heap.size w w') (cs : ∀ w, Calls Try.prog 14 #[.int .u64 xnn] w fun e w' => e = .returned (.int .u64 xn) ∧ Below w.heap.size w w') (hd : spec_DrawNumbers.f k l0 = some (a, b, c)) (hx : a % 9223372036854775808 = x) (ba : 0 ≤ a ∧ a < 18446744073709551616)
    (csx : ∀ w, Calls Try.prog 14 #[.int .u64 x] w fun e w' => e = .returned (.int .u64 s) ∧ Below w.heap.size w w') (csp : ∀ w, Calls Try.prog 17 #[.int .u64 x] w fun e w' => e = .returned (.int .u64 s) ∧ Below w.heap.size w w') (cq : ∀ w, Calls Try.prog 16 #[.int .u64 x] w fun e w' => e = .returned (.agg #[.int .i64 q1, .bool q2, .int .u64 q3, .int .i64 q4]) ∧ Below w.heap.size w w')
    (m1 : (q1 != 4) = true) :
    Calls Try.prog 4 #[.slice A0 l0.length c0] w fun e w' => e = .returned (.bool true) ∧ Below w.heap.size w w' := by
  have HB := Aside0.mk hbig; have HP := Aside0.mk hp; have HL := Aside0.mk hl; have Q0 := Aside0.mk q0; have Q1 := Aside0.mk q01; have HN := Aside0.mk hn; have HD := Aside0.mk hd; have HX := Aside0.mk hx
  have CNN := Aside0.mk cnn; have CN := Aside0.mk cn; have CS := Aside0.mk cs; have CSX := Aside0.mk csx; have CSP := Aside0.mk csp; have CQ := Aside0.mk cq
  clear hbig hp hl q0 q01 hn hd hx cnn cn cs csx csp cq
  have hu := Try.underlying34
  have HR := Aside0.mk hr0; have HC := Aside0.mk hc0; clear hr0 hc0
  go_enter Try.func4, Try.ntmps4
  go_wp2_with fail
  refine (laws_big.calls A0 c0 l0 false _ HR.out HC.out HB.out).mono ?_; rintro e w1 ⟨rfl, hb1⟩
  have M1 := Aside0.mk ((Mem.start w).step hb1.below); clear hb1
  go_wp2_with fail
  refine (spec_DrawPlaces.calls k A0 c0 l0 r _ (Kd.C_below HR.out M1.out.below) HC.out HP.out).mono ?_; rintro e w2 ⟨v, rfl, hr, hb2⟩
  obtain ⟨A, y, rfl, hy, hC⟩ := Kd.R_reads hr
  have M2 := Aside0.mk (M1.out.step hb2); clear hb2 hr M1
  obtain ⟨ad, rfl, z0⟩ := int_at hC 0 (by have := HL.out; omega)
  obtain ⟨ad1, had1, z1⟩ := int_at hC 1 (by have := HL.out; omega); cases had1
  rw [Q0.out] at z0; rw [Q1.out] at z1
  rw [show ad.add 0 = ad from rfl] at z0; rw [show ad.add 1 = ⟨ad.block, ad.off + 1, none⟩ from rfl] at z1
  clear hC
  have e12 : r.length = 12 := HL.out
  rw [e12]
  clear e12
  go_wp2_with fail
  go_region_held3 (fun W => W.cell? ad = some (.int .i64 p0) ∧ W.cell? ⟨ad.block, ad.off + 1, none⟩ = some (.int .i64 p1)) (first | exact ⟨z0, z1⟩ | exact ⟨pw_cell_below (below_drew1 (Below.refl _ _)) z0, pw_cell_below (below_drew1 (Below.refl _ _)) z1⟩) (fail)
  rw [i64_id (n := p0 * 900) (by omega) (by omega), HN.out, i64_id (n := n) (by omega) (by omega)]
  have M3 := Aside0.mk M2.out.drew; clear M2 z0 z1 b0 b1
  generalize w2.drew = w3 at M3 ⊢
  have bn1 := bn.1; have bn2 := bn.2; have bnn1 := bnn.1; have bnn2 := bnn.2; have ba1 := ba.1; have ba2 := ba.2
  go_wp2_with fail
  refine (CNN.out _).mono ?_; rintro e x4 ⟨rfl, hb⟩
  have M4 := Aside0.mk (M3.out.step hb); clear hb M3
  go_wp2_with fail
  refine (CS.out _).mono ?_; rintro e x5 ⟨rfl, hb⟩
  have M5 := Aside0.mk (M4.out.step hb); clear hb M4
  go_wp2_with fail
  refine (CN.out _).mono ?_; rintro e x6 ⟨rfl, hb⟩
  have M6 := Aside0.mk (M5.out.step hb); clear hb M5
  go_wp2_with fail
  refine (spec_DrawNumbers.calls k A0 c0 l0 a b c _ (Kd.C_below HR.out M6.out.below) HC.out HD.out).mono ?_; rintro e x7 ⟨rfl, hb⟩
  have M7 := Aside0.mk (M6.out.step (by first | exact hb | exact hb.below)); clear hb M6
  go_upto_region 9 with fail
  rw [HX.out]
  go_wp2_with fail
  refine (CSX.out _).mono ?_; rintro e x8 ⟨rfl, hb⟩
  have M8 := Aside0.mk (M7.out.step hb); clear hb M7
  go_wp2_with fail
  refine (CQ.out _).mono ?_; rintro e x9 ⟨rfl, hb⟩
  have M9 := Aside0.mk ((M8.out.step hb).allocAt rfl #[.int .i64 q1, .bool q2, .int .u64 q3, .int .i64 q4] 34); clear hb M8
  have z := M9.out.box (.head _)
  go_wp2_with fail
  refine (CSP.out _).mono ?_; rintro e x10 ⟨rfl, hb⟩
  have M10 := Aside0.mk (M9.out.step hb); clear hb M9 z
  have z := M10.out.box (.head _)
  go_wp2
  go_ret
  exact ⟨rfl, M10.out.below⟩
set_option maxHeartbeats 8000000 in
set_option maxRecDepth 100000 in
theorem wE2 (A0 : Option Addr) (c0 : Nat) (l0 r : List Int) (k : Nat) (p0 p1 n xn xnn a b c x s q1 q3 q4 : Int) (q2 : Bool) (w : World) (hr0 : Kd.C (Kd.int .u8) w A0 l0.length l0) (hc0 : l0.length ≤ c0) (hbig : laws_big.f l0 = some false)
    (hp : spec_DrawPlaces.f k l0 = some r) (hl : r.length = 12) (q0 : el 0 r 0 = p0) (q01 : el 0 r 1 = p1) (b0 : 0 ≤ p0 ∧ p0 < 10000) (b1 : 0 ≤ p1 ∧ p1 < 10000) (hn : p0 * 900 + p1 = n) (bn : 0 ≤ n ∧ n ≤ 10000000) (bnn : 0 ≤ n * n ∧ n * n ≤ 100000000000000)
    (cnn : ∀ w, Calls Try.prog 10 #[.int .i64 (n * n)] w fun e w' => e = .returned (.int .u64 xnn) ∧ Below w.heap.size w w') (cn : ∀ w, Calls Try.prog 10 #[.int .i64 n] w fun e w' => e = .returned (.int .u64 xn) ∧ Below w.heap.size w w') (cs : ∀ w, Calls Try.prog 14 #[.int .u64 xnn] w fun e w' => e = .returned (.int .u64 xn) ∧ Below w.heap.size w w') (hd : spec_DrawNumbers.f k l0 = some (a, b, c)) (hx : a % 9223372036854775808 = x) (ba : 0 ≤ a ∧ a < 18446744073709551616)
    (csx : ∀ w, Calls Try.prog 14 #[.int .u64 x] w fun e w' => e = .returned (.int .u64 s) ∧ Below w.heap.size w w') (csp : ∀ w, Calls Try.prog 17 #[.int .u64 x] w fun e w' => e = .returned (.int .u64 s) ∧ Below w.heap.size w w') (cq : ∀ w, Calls Try.prog 16 #[.int .u64 x] w fun e w' => e = .returned (.agg #[.int .i64 q1, .bool q2, .int .u64 q3, .int .i64 q4]) ∧ Below w.heap.size w w')
    (m1 : (q1 != 4) = false) (m2 : q4 < -1000) :
    Calls Try.prog 4 #[.slice A0 l0.length c0] w fun e w' => e = .returned (.bool true) ∧ Below w.heap.size w w' := by
  have HB := Aside0.mk hbig; have HP := Aside0.mk hp; have HL := Aside0.mk hl; have Q0 := Aside0.mk q0; have Q1 := Aside0.mk q01; have HN := Aside0.mk hn; have HD := Aside0.mk hd; have HX := Aside0.mk hx
  have CNN := Aside0.mk cnn; have CN := Aside0.mk cn; have CS := Aside0.mk cs; have CSX := Aside0.mk csx; have CSP := Aside0.mk csp; have CQ := Aside0.mk cq
  clear hbig hp hl q0 q01 hn hd hx cnn cn cs csx csp cq
  have hu := Try.underlying34
  have HR := Aside0.mk hr0; have HC := Aside0.mk hc0; clear hr0 hc0
  go_enter Try.func4, Try.ntmps4
  go_wp2_with fail
  refine (laws_big.calls A0 c0 l0 false _ HR.out HC.out HB.out).mono ?_; rintro e w1 ⟨rfl, hb1⟩
  have M1 := Aside0.mk ((Mem.start w).step hb1.below); clear hb1
  go_wp2_with fail
  refine (spec_DrawPlaces.calls k A0 c0 l0 r _ (Kd.C_below HR.out M1.out.below) HC.out HP.out).mono ?_; rintro e w2 ⟨v, rfl, hr, hb2⟩
  obtain ⟨A, y, rfl, hy, hC⟩ := Kd.R_reads hr
  have M2 := Aside0.mk (M1.out.step hb2); clear hb2 hr M1
  obtain ⟨ad, rfl, z0⟩ := int_at hC 0 (by have := HL.out; omega)
  obtain ⟨ad1, had1, z1⟩ := int_at hC 1 (by have := HL.out; omega); cases had1
  rw [Q0.out] at z0; rw [Q1.out] at z1
  rw [show ad.add 0 = ad from rfl] at z0; rw [show ad.add 1 = ⟨ad.block, ad.off + 1, none⟩ from rfl] at z1
  clear hC
  have e12 : r.length = 12 := HL.out
  rw [e12]
  clear e12
  go_wp2_with fail
  go_region_held3 (fun W => W.cell? ad = some (.int .i64 p0) ∧ W.cell? ⟨ad.block, ad.off + 1, none⟩ = some (.int .i64 p1)) (first | exact ⟨z0, z1⟩ | exact ⟨pw_cell_below (below_drew1 (Below.refl _ _)) z0, pw_cell_below (below_drew1 (Below.refl _ _)) z1⟩) (fail)
  rw [i64_id (n := p0 * 900) (by omega) (by omega), HN.out, i64_id (n := n) (by omega) (by omega)]
  have M3 := Aside0.mk M2.out.drew; clear M2 z0 z1 b0 b1
  generalize w2.drew = w3 at M3 ⊢
  have bn1 := bn.1; have bn2 := bn.2; have bnn1 := bnn.1; have bnn2 := bnn.2; have ba1 := ba.1; have ba2 := ba.2
  go_wp2_with fail
  refine (CNN.out _).mono ?_; rintro e x4 ⟨rfl, hb⟩
  have M4 := Aside0.mk (M3.out.step hb); clear hb M3
  go_wp2_with fail
  refine (CS.out _).mono ?_; rintro e x5 ⟨rfl, hb⟩
  have M5 := Aside0.mk (M4.out.step hb); clear hb M4
  go_wp2_with fail
  refine (CN.out _).mono ?_; rintro e x6 ⟨rfl, hb⟩
  have M6 := Aside0.mk (M5.out.step hb); clear hb M5
  go_wp2_with fail
  refine (spec_DrawNumbers.calls k A0 c0 l0 a b c _ (Kd.C_below HR.out M6.out.below) HC.out HD.out).mono ?_; rintro e x7 ⟨rfl, hb⟩
  have M7 := Aside0.mk (M6.out.step (by first | exact hb | exact hb.below)); clear hb M6
  go_upto_region 9 with fail
  rw [HX.out]
  go_wp2_with fail
  refine (CSX.out _).mono ?_; rintro e x8 ⟨rfl, hb⟩
  have M8 := Aside0.mk (M7.out.step hb); clear hb M7
  go_wp2_with fail
  refine (CQ.out _).mono ?_; rintro e x9 ⟨rfl, hb⟩
  have M9 := Aside0.mk ((M8.out.step hb).allocAt rfl #[.int .i64 q1, .bool q2, .int .u64 q3, .int .i64 q4] 34); clear hb M8
  have z := M9.out.box (.head _)
  go_wp2_with fail
  refine (CSP.out _).mono ?_; rintro e x10 ⟨rfl, hb⟩
  have M10 := Aside0.mk (M9.out.step hb); clear hb M9 z
  have z := M10.out.box (.head _)
  go_wp2
  go_ret
  exact ⟨rfl, M10.out.below⟩
set_option maxHeartbeats 8000000 in
set_option maxRecDepth 100000 in
theorem wE3 (A0 : Option Addr) (c0 : Nat) (l0 r : List Int) (k : Nat) (p0 p1 n xn xnn a b c x s q1 q3 q4 : Int) (q2 : Bool) (w : World) (hr0 : Kd.C (Kd.int .u8) w A0 l0.length l0) (hc0 : l0.length ≤ c0) (hbig : laws_big.f l0 = some false)
    (hp : spec_DrawPlaces.f k l0 = some r) (hl : r.length = 12) (q0 : el 0 r 0 = p0) (q01 : el 0 r 1 = p1) (b0 : 0 ≤ p0 ∧ p0 < 10000) (b1 : 0 ≤ p1 ∧ p1 < 10000) (hn : p0 * 900 + p1 = n) (bn : 0 ≤ n ∧ n ≤ 10000000) (bnn : 0 ≤ n * n ∧ n * n ≤ 100000000000000)
    (cnn : ∀ w, Calls Try.prog 10 #[.int .i64 (n * n)] w fun e w' => e = .returned (.int .u64 xnn) ∧ Below w.heap.size w w') (cn : ∀ w, Calls Try.prog 10 #[.int .i64 n] w fun e w' => e = .returned (.int .u64 xn) ∧ Below w.heap.size w w') (cs : ∀ w, Calls Try.prog 14 #[.int .u64 xnn] w fun e w' => e = .returned (.int .u64 xn) ∧ Below w.heap.size w w') (hd : spec_DrawNumbers.f k l0 = some (a, b, c)) (hx : a % 9223372036854775808 = x) (ba : 0 ≤ a ∧ a < 18446744073709551616)
    (csx : ∀ w, Calls Try.prog 14 #[.int .u64 x] w fun e w' => e = .returned (.int .u64 s) ∧ Below w.heap.size w w') (csp : ∀ w, Calls Try.prog 17 #[.int .u64 x] w fun e w' => e = .returned (.int .u64 s) ∧ Below w.heap.size w w') (cq : ∀ w, Calls Try.prog 16 #[.int .u64 x] w fun e w' => e = .returned (.agg #[.int .i64 q1, .bool q2, .int .u64 q3, .int .i64 q4]) ∧ Below w.heap.size w w')
    (m1 : (q1 != 4) = false) (m2 : ¬ q4 < -1000) (m3 : q4 > 800) :
    Calls Try.prog 4 #[.slice A0 l0.length c0] w fun e w' => e = .returned (.bool true) ∧ Below w.heap.size w w' := by
  have HB := Aside0.mk hbig; have HP := Aside0.mk hp; have HL := Aside0.mk hl; have Q0 := Aside0.mk q0; have Q1 := Aside0.mk q01; have HN := Aside0.mk hn; have HD := Aside0.mk hd; have HX := Aside0.mk hx
  have CNN := Aside0.mk cnn; have CN := Aside0.mk cn; have CS := Aside0.mk cs; have CSX := Aside0.mk csx; have CSP := Aside0.mk csp; have CQ := Aside0.mk cq
  clear hbig hp hl q0 q01 hn hd hx cnn cn cs csx csp cq
  have hu := Try.underlying34
  have HR := Aside0.mk hr0; have HC := Aside0.mk hc0; clear hr0 hc0
  go_enter Try.func4, Try.ntmps4
  go_wp2_with fail
  refine (laws_big.calls A0 c0 l0 false _ HR.out HC.out HB.out).mono ?_; rintro e w1 ⟨rfl, hb1⟩
  have M1 := Aside0.mk ((Mem.start w).step hb1.below); clear hb1
  go_wp2_with fail
  refine (spec_DrawPlaces.calls k A0 c0 l0 r _ (Kd.C_below HR.out M1.out.below) HC.out HP.out).mono ?_; rintro e w2 ⟨v, rfl, hr, hb2⟩
  obtain ⟨A, y, rfl, hy, hC⟩ := Kd.R_reads hr
  have M2 := Aside0.mk (M1.out.step hb2); clear hb2 hr M1
  obtain ⟨ad, rfl, z0⟩ := int_at hC 0 (by have := HL.out; omega)
  obtain ⟨ad1, had1, z1⟩ := int_at hC 1 (by have := HL.out; omega); cases had1
  rw [Q0.out] at z0; rw [Q1.out] at z1
  rw [show ad.add 0 = ad from rfl] at z0; rw [show ad.add 1 = ⟨ad.block, ad.off + 1, none⟩ from rfl] at z1
  clear hC
  have e12 : r.length = 12 := HL.out
  rw [e12]
  clear e12
  go_wp2_with fail
  go_region_held3 (fun W => W.cell? ad = some (.int .i64 p0) ∧ W.cell? ⟨ad.block, ad.off + 1, none⟩ = some (.int .i64 p1)) (first | exact ⟨z0, z1⟩ | exact ⟨pw_cell_below (below_drew1 (Below.refl _ _)) z0, pw_cell_below (below_drew1 (Below.refl _ _)) z1⟩) (fail)
  rw [i64_id (n := p0 * 900) (by omega) (by omega), HN.out, i64_id (n := n) (by omega) (by omega)]
  have M3 := Aside0.mk M2.out.drew; clear M2 z0 z1 b0 b1
  generalize w2.drew = w3 at M3 ⊢
  have bn1 := bn.1; have bn2 := bn.2; have bnn1 := bnn.1; have bnn2 := bnn.2; have ba1 := ba.1; have ba2 := ba.2
  go_wp2_with fail
  refine (CNN.out _).mono ?_; rintro e x4 ⟨rfl, hb⟩
  have M4 := Aside0.mk (M3.out.step hb); clear hb M3
  go_wp2_with fail
  refine (CS.out _).mono ?_; rintro e x5 ⟨rfl, hb⟩
  have M5 := Aside0.mk (M4.out.step hb); clear hb M4
  go_wp2_with fail
  refine (CN.out _).mono ?_; rintro e x6 ⟨rfl, hb⟩
  have M6 := Aside0.mk (M5.out.step hb); clear hb M5
  go_wp2_with fail
  refine (spec_DrawNumbers.calls k A0 c0 l0 a b c _ (Kd.C_below HR.out M6.out.below) HC.out HD.out).mono ?_; rintro e x7 ⟨rfl, hb⟩
  have M7 := Aside0.mk (M6.out.step (by first | exact hb | exact hb.below)); clear hb M6
  go_upto_region 9 with fail
  rw [HX.out]
  go_wp2_with fail
  refine (CSX.out _).mono ?_; rintro e x8 ⟨rfl, hb⟩
  have M8 := Aside0.mk (M7.out.step hb); clear hb M7
  go_wp2_with fail
  refine (CQ.out _).mono ?_; rintro e x9 ⟨rfl, hb⟩
  have M9 := Aside0.mk ((M8.out.step hb).allocAt rfl #[.int .i64 q1, .bool q2, .int .u64 q3, .int .i64 q4] 34); clear hb M8
  have z := M9.out.box (.head _)
  go_wp2_with fail
  refine (CSP.out _).mono ?_; rintro e x10 ⟨rfl, hb⟩
  have M10 := Aside0.mk (M9.out.step hb); clear hb M9 z
  have z := M10.out.box (.head _)
  go_wp2
  go_ret
  exact ⟨rfl, M10.out.below⟩
set_option maxHeartbeats 8000000 in
set_option maxRecDepth 100000 in
theorem wE4 (A0 : Option Addr) (c0 : Nat) (l0 r : List Int) (k : Nat) (p0 p1 n xn xnn a b c x s q1 q3 q4 : Int) (q2 : Bool) (w : World) (hr0 : Kd.C (Kd.int .u8) w A0 l0.length l0) (hc0 : l0.length ≤ c0) (hbig : laws_big.f l0 = some false)
    (hp : spec_DrawPlaces.f k l0 = some r) (hl : r.length = 12) (q0 : el 0 r 0 = p0) (q01 : el 0 r 1 = p1) (b0 : 0 ≤ p0 ∧ p0 < 10000) (b1 : 0 ≤ p1 ∧ p1 < 10000) (hn : p0 * 900 + p1 = n) (bn : 0 ≤ n ∧ n ≤ 10000000) (bnn : 0 ≤ n * n ∧ n * n ≤ 100000000000000)
    (cnn : ∀ w, Calls Try.prog 10 #[.int .i64 (n * n)] w fun e w' => e = .returned (.int .u64 xnn) ∧ Below w.heap.size w w') (cn : ∀ w, Calls Try.prog 10 #[.int .i64 n] w fun e w' => e = .returned (.int .u64 xn) ∧ Below w.heap.size w w') (cs : ∀ w, Calls Try.prog 14 #[.int .u64 xnn] w fun e w' => e = .returned (.int .u64 xn) ∧ Below w.heap.size w w') (hd : spec_DrawNumbers.f k l0 = some (a, b, c)) (hx : a % 9223372036854775808 = x) (ba : 0 ≤ a ∧ a < 18446744073709551616)
    (csx : ∀ w, Calls Try.prog 14 #[.int .u64 x] w fun e w' => e = .returned (.int .u64 s) ∧ Below w.heap.size w w') (csp : ∀ w, Calls Try.prog 17 #[.int .u64 x] w fun e w' => e = .returned (.int .u64 s) ∧ Below w.heap.size w w') (cq : ∀ w, Calls Try.prog 16 #[.int .u64 x] w fun e w' => e = .returned (.agg #[.int .i64 q1, .bool q2, .int .u64 q3, .int .i64 q4]) ∧ Below w.heap.size w w')
    (m1 : (q1 != 4) = false) (m2 : ¬ q4 < -1000) (m3 : ¬ q4 > 800) (lo hi : Int) (bs : 1 ≤ s ∧ s < 9000000000000000000) (cml : ∀ w, Calls Try.prog 18 #[.int .u64 (s - 1), .int .u64 (s - 1)] w fun e w' => e = .returned (.int .u64 lo) ∧ Below w.heap.size w w') (cmh : ∀ w, Calls Try.prog 18 #[.int .u64 (s + 1), .int .u64 (s + 1)] w fun e w' => e = .returned (.int .u64 hi) ∧ Below w.heap.size w w') (cl1 : ∀ w, Calls Try.prog 19 #[.int .u64 x, .int .u64 lo] w fun e w' => e = .returned (.bool false) ∧ Below w.heap.size w w') (cl2 : ∀ w, Calls Try.prog 19 #[.int .u64 hi, .int .u64 x] w fun e w' => e = .returned (.bool false) ∧ Below w.heap.size w w') :
    Calls Try.prog 4 #[.slice A0 l0.length c0] w fun e w' => e = .returned (.bool true) ∧ Below w.heap.size w w' := by
  have HB := Aside0.mk hbig; have HP := Aside0.mk hp; have HL := Aside0.mk hl; have Q0 := Aside0.mk q0; have Q1 := Aside0.mk q01; have HN := Aside0.mk hn; have HD := Aside0.mk hd; have HX := Aside0.mk hx
  have CNN := Aside0.mk cnn; have CN := Aside0.mk cn; have CS := Aside0.mk cs; have CSX := Aside0.mk csx; have CSP := Aside0.mk csp; have CQ := Aside0.mk cq
  clear hbig hp hl q0 q01 hn hd hx cnn cn cs csx csp cq
  have hu := Try.underlying34
  have HR := Aside0.mk hr0; have HC := Aside0.mk hc0; clear hr0 hc0
  go_enter Try.func4, Try.ntmps4
  go_wp2_with fail
  refine (laws_big.calls A0 c0 l0 false _ HR.out HC.out HB.out).mono ?_; rintro e w1 ⟨rfl, hb1⟩
  have M1 := Aside0.mk ((Mem.start w).step hb1.below); clear hb1
  go_wp2_with fail
  refine (spec_DrawPlaces.calls k A0 c0 l0 r _ (Kd.C_below HR.out M1.out.below) HC.out HP.out).mono ?_; rintro e w2 ⟨v, rfl, hr, hb2⟩
  obtain ⟨A, y, rfl, hy, hC⟩ := Kd.R_reads hr
  have M2 := Aside0.mk (M1.out.step hb2); clear hb2 hr M1
  obtain ⟨ad, rfl, z0⟩ := int_at hC 0 (by have := HL.out; omega)
  obtain ⟨ad1, had1, z1⟩ := int_at hC 1 (by have := HL.out; omega); cases had1
  rw [Q0.out] at z0; rw [Q1.out] at z1
  rw [show ad.add 0 = ad from rfl] at z0; rw [show ad.add 1 = ⟨ad.block, ad.off + 1, none⟩ from rfl] at z1
  clear hC
  have e12 : r.length = 12 := HL.out
  rw [e12]
  clear e12
  go_wp2_with fail
  go_region_held3 (fun W => W.cell? ad = some (.int .i64 p0) ∧ W.cell? ⟨ad.block, ad.off + 1, none⟩ = some (.int .i64 p1)) (first | exact ⟨z0, z1⟩ | exact ⟨pw_cell_below (below_drew1 (Below.refl _ _)) z0, pw_cell_below (below_drew1 (Below.refl _ _)) z1⟩) (fail)
  rw [i64_id (n := p0 * 900) (by omega) (by omega), HN.out, i64_id (n := n) (by omega) (by omega)]
  have M3 := Aside0.mk M2.out.drew; clear M2 z0 z1 b0 b1
  generalize w2.drew = w3 at M3 ⊢
  have bn1 := bn.1; have bn2 := bn.2; have bnn1 := bnn.1; have bnn2 := bnn.2; have ba1 := ba.1; have ba2 := ba.2
  go_wp2_with fail
  refine (CNN.out _).mono ?_; rintro e x4 ⟨rfl, hb⟩
  have M4 := Aside0.mk (M3.out.step hb); clear hb M3
  go_wp2_with fail
  refine (CS.out _).mono ?_; rintro e x5 ⟨rfl, hb⟩
  have M5 := Aside0.mk (M4.out.step hb); clear hb M4
  go_wp2_with fail
  refine (CN.out _).mono ?_; rintro e x6 ⟨rfl, hb⟩
  have M6 := Aside0.mk (M5.out.step hb); clear hb M5
  go_wp2_with fail
  refine (spec_DrawNumbers.calls k A0 c0 l0 a b c _ (Kd.C_below HR.out M6.out.below) HC.out HD.out).mono ?_; rintro e x7 ⟨rfl, hb⟩
  have M7 := Aside0.mk (M6.out.step (by first | exact hb | exact hb.below)); clear hb M6
  go_upto_region 9 with fail
  rw [HX.out]
  go_wp2_with fail
  refine (CSX.out _).mono ?_; rintro e x8 ⟨rfl, hb⟩
  have M8 := Aside0.mk (M7.out.step hb); clear hb M7
  go_wp2_with fail
  refine (CQ.out _).mono ?_; rintro e x9 ⟨rfl, hb⟩
  have M9 := Aside0.mk ((M8.out.step hb).allocAt rfl #[.int .i64 q1, .bool q2, .int .u64 q3, .int .i64 q4] 34); clear hb M8
  have z := M9.out.box (.head _)
  go_wp2_with fail
  refine (CSP.out _).mono ?_; rintro e x10 ⟨rfl, hb⟩
  have M10 := Aside0.mk (M9.out.step hb); clear hb M9 z
  have z := M10.out.box (.head _)
  have CML := Aside0.mk cml; have CMH := Aside0.mk cmh; have CL1 := Aside0.mk cl1; have CL2 := Aside0.mk cl2; clear cml cmh cl1 cl2; have bs1 := bs.1; have bs2 := bs.2
  go_upto_region 15 with fail
  clear z
  have M11 := Aside0.mk M10.out.drop; clear M10
  go_wp2_with fail
  refine (CML.out _).mono ?_; rintro e x12 ⟨rfl, hb⟩
  have M12 := Aside0.mk (M11.out.step hb); clear hb M11
  go_wp2_with fail
  refine (CMH.out _).mono ?_; rintro e x13 ⟨rfl, hb⟩
  have M13 := Aside0.mk (M12.out.step hb); clear hb M12
  go_wp2_with fail
  refine (CL1.out _).mono ?_; rintro e x14 ⟨rfl, hb⟩
  have M14 := Aside0.mk (M13.out.step hb); clear hb M13
  go_wp2_with fail
  refine (CL2.out _).mono ?_; rintro e x15 ⟨rfl, hb⟩
  have M15 := Aside0.mk (M14.out.step hb); clear hb M14
  go_wp2
  go_ret
  exact ⟨rfl, M15.out.below⟩
theorem PN_four {X : Nat} (hX : X < 9223372036854775808) {q1 q3 q4 : Int} {q2 : Bool} (h : PN (X : Int) = (q1, q2, q3, q4)) (h4 : q1 = 4) : Pos X ∧ 0 < mant X ∧ q4 = place X := by
  rw [PN_eq (by omega)] at h
  by_cases a : ex X = 2047
  · rw [if_pos a] at h
    exfalso
    split at h <;> (injection h with h1 _; omega)
  · rw [if_neg a] at h
    by_cases b : mant X = 0
    · rw [if_pos b] at h
      injection h with h1 _
      omega
    · rw [if_neg b] at h
      injection h with _ h2
      injection h2 with _ h3
      injection h3 with _ h5
      refine ⟨?_, by omega, h5.symm⟩
      have := ex_lt X
      unfold Pos
      unfold ex at *
      omega
theorem law {q : Prop} (A0 : Option Addr) (c0 : Nat) (l0 : List Int) (w : World) (hr0 : Kd.C (Kd.int .u8) w A0 l0.length l0) (hc0 : l0.length ≤ c0) (g : q) :
    Calls Try.prog 4 #[.slice A0 l0.length c0] w fun e w' => e = .returned (.bool true) ∧ Below w.heap.size w w' := by
  by_cases hbig : (l0.length : Int) > 1048576
  · exact wBig A0 c0 l0 w hr0 hc0 (by unfold laws_big.f; rw [decide_eq_true hbig])
  · obtain ⟨k, hk⟩ : ∃ k : Nat, 1048577 ≤ k := ⟨1048577, Nat.le_refl _⟩
    obtain ⟨r, hp, hl, hall⟩ := places_k l0 (by omega) hk
    obtain ⟨a, b, c, hd, wa, wb, wc⟩ := draw_ok l0 (by omega) hk
    have hb0 : laws_big.f l0 = some false := by unfold laws_big.f; rw [decide_eq_false hbig]
    have b0 := hall _ (el_in (l := r) (j := 0) (by omega))
    have b1 := hall _ (el_in (l := r) (j := 1) (by omega))
    obtain ⟨p0, q0⟩ : ∃ p, el 0 r 0 = p := ⟨_, rfl⟩
    obtain ⟨p1, q01⟩ : ∃ p, el 0 r 1 = p := ⟨_, rfl⟩
    rw [q0] at b0; rw [q01] at b1
    obtain ⟨N, hN⟩ : ∃ N : Nat, p0 * 900 + p1 = (N : Int) := ⟨(p0 * 900 + p1).toNat, by omega⟩
    have hN2 : N ≤ 10000000 := by omega
    have hNN : N * N ≤ 100000000000000 := Nat.mul_le_mul hN2 hN2
    have eNN : (N : Int) * (N : Int) = ((N * N : Nat) : Int) := (Int.natCast_mul N N).symm
    have hbn : 0 ≤ (N : Int) ∧ (N : Int) ≤ 10000000 := by omega
    have hbnn : 0 ≤ (N : Int) * (N : Int) ∧ (N : Int) * (N : Int) ≤ 100000000000000 := by rw [eNN]; generalize N * N = z at hNN ⊢; omega
    have hsq : double.sqrt (wh ((N : Int) * (N : Int))) = some (wh (N : Int)) := by rw [eNN]; exact sqrt_whole (by omega)
    obtain ⟨X, hX, hX2⟩ : ∃ X : Nat, a % 9223372036854775808 = (X : Int) ∧ X < 9223372036854775808 := ⟨(a % 9223372036854775808).toNat, by omega, by omega⟩
    obtain ⟨q1, q2, q3, q4, hPN⟩ : ∃ q1 q2 q3 q4, PN (X : Int) = (q1, q2, q3, q4) := ⟨_, _, _, _, rfl⟩
    have cnn : ∀ w, Calls Try.prog 10 #[.int .i64 ((N : Int) * (N : Int))] w fun e w' => e = .returned (.int .u64 ((wh ((N : Int) * (N : Int)) : Nat) : Int)) ∧ Below w.heap.size w w' := fun w => (wholeC (by rw [eNN, Int.natAbs_natCast]; omega) w).mono (by rintro e w1 ⟨rfl, hb⟩; exact ⟨rfl, by first | exact hb | exact hb.below⟩)
    have cn : ∀ w, Calls Try.prog 10 #[.int .i64 (N : Int)] w fun e w' => e = .returned (.int .u64 ((wh (N : Int) : Nat) : Int)) ∧ Below w.heap.size w w' := fun w => (wholeC (by omega) w).mono (by rintro e w1 ⟨rfl, hb⟩; exact ⟨rfl, by first | exact hb | exact hb.below⟩)
    have cs : ∀ w, Calls Try.prog 14 #[.int .u64 ((wh ((N : Int) * (N : Int)) : Nat) : Int)] w fun e w' => e = .returned (.int .u64 ((wh (N : Int) : Nat) : Int)) ∧ Below w.heap.size w w' := by
      intro w
      have C := FlI.sqrt ((wh ((N : Int) * (N : Int)) : Nat) : Int) w
      rw [Int.toNat_natCast, hsq] at C
      exact C.mono (by rintro e w1 ⟨rfl, hb⟩; exact ⟨rfl, by first | exact hb | exact hb.below⟩)
    have csx : ∀ w, Calls Try.prog 14 #[.int .u64 (X : Int)] w fun e w' => e = .returned (.int .u64 (opW (double.sqrt X))) ∧ Below w.heap.size w w' := by
      intro w
      have C := FlI.sqrt (X : Int) w
      rw [Int.toNat_natCast] at C
      exact C.mono (by rintro e w1 ⟨rfl, hb⟩; exact ⟨rfl, by first | exact hb | exact hb.below⟩)
    have csp : ∀ w, Calls Try.prog 17 #[.int .u64 (X : Int)] w fun e w' => e = .returned (.int .u64 (opW (double.sqrt X))) ∧ Below w.heap.size w w' := fun w => (spec_Sqrt.calls k _ _ w (sqrt_ok (by omega) (by omega))).mono (by rintro e w1 ⟨rfl, hb⟩; exact ⟨rfl, by first | exact hb | exact hb.below⟩)
    have cq : ∀ w, Calls Try.prog 16 #[.int .u64 (X : Int)] w fun e w' => e = .returned (.agg #[.int .i64 q1, .bool q2, .int .u64 q3, .int .i64 q4]) ∧ Below w.heap.size w w' := fun w => (spec_PartsOfNumber.calls k _ _ _ _ _ w (by rw [sparts_k (by omega) (by omega), hPN])).mono (by rintro e w1 ⟨rfl, hb⟩; exact ⟨rfl, by first | exact hb | exact hb.below⟩)
    by_cases c4 : q1 = 4
    · have m1 : (q1 != 4) = false := by rw [c4]; rfl
      by_cases m2 : q4 < -1000
      · exact wE2 A0 c0 l0 r k p0 p1 _ _ _ a b c _ _ q1 q3 q4 q2 w hr0 hc0 hb0 hp hl q0 q01 b0 b1 hN hbn hbnn cnn cn cs hd hX wa csx csp cq m1 m2
      · by_cases m3 : q4 > 800
        · exact wE3 A0 c0 l0 r k p0 p1 _ _ _ a b c _ _ q1 q3 q4 q2 w hr0 hc0 hb0 hp hl q0 q01 b0 b1 hN hbn hbnn cnn cn cs hd hX wa csx csp cq m1 m2 m3
        · obtain ⟨hP, hm, h4⟩ := PN_four hX2 hPN c4
          obtain ⟨R, lo, hi, e1, r1, r2, e2, l1, e3, l2, l3⟩ := near_ok hP hm (by omega)
          rw [e1] at csx csp
          have hR1 : ((R : Nat) : Int) - 1 = ((R - 1 : Nat) : Int) := by omega
          have hR2 : ((R : Nat) : Int) + 1 = ((R + 1 : Nat) : Int) := by omega
          have hXl : X ≤ 9218868437227405312 := by unfold Pos at hP; omega
          have cml : ∀ w, Calls Try.prog 18 #[.int .u64 (((R : Nat) : Int) - 1), .int .u64 (((R : Nat) : Int) - 1)] w fun e w' => e = .returned (.int .u64 ((lo : Nat) : Int)) ∧ Below w.heap.size w w' := fun w => (spec_Mul.calls k _ _ _ w (by rw [hR1, mul_ok (by omega) (by omega) (by omega), e2])).mono (by rintro e w1 ⟨rfl, hb⟩; exact ⟨rfl, by first | exact hb | exact hb.below⟩)
          have cmh : ∀ w, Calls Try.prog 18 #[.int .u64 (((R : Nat) : Int) + 1), .int .u64 (((R : Nat) : Int) + 1)] w fun e w' => e = .returned (.int .u64 ((hi : Nat) : Int)) ∧ Below w.heap.size w w' := fun w => (spec_Mul.calls k _ _ _ w (by rw [hR2, mul_ok (by omega) (by omega) (by omega), e3])).mono (by rintro e w1 ⟨rfl, hb⟩; exact ⟨rfl, by first | exact hb | exact hb.below⟩)
          have cl1 : ∀ w, Calls Try.prog 19 #[.int .u64 (X : Int), .int .u64 ((lo : Nat) : Int)] w fun e w' => e = .returned (.bool false) ∧ Below w.heap.size w w' := fun w => (spec_Less.calls k _ _ _ w (by rw [Dob.specLess (by omega) ⟨by omega, by omega⟩ ⟨by omega, by omega⟩, Int.toNat_natCast, Int.toNat_natCast, order_le hXl (by omega), decide_eq_false (by omega)])).mono (by rintro e w1 ⟨rfl, hb⟩; exact ⟨rfl, by first | exact hb | exact hb.below⟩)
          have cl2 : ∀ w, Calls Try.prog 19 #[.int .u64 ((hi : Nat) : Int), .int .u64 (X : Int)] w fun e w' => e = .returned (.bool false) ∧ Below w.heap.size w w' := fun w => (spec_Less.calls k _ _ _ w (by rw [Dob.specLess (by omega) ⟨by omega, by omega⟩ ⟨by omega, by omega⟩, Int.toNat_natCast, Int.toNat_natCast, order_le l3 hXl, decide_eq_false (by omega)])).mono (by rintro e w1 ⟨rfl, hb⟩; exact ⟨rfl, by first | exact hb | exact hb.below⟩)
          exact wE4 A0 c0 l0 r k p0 p1 _ _ _ a b c _ _ q1 q3 q4 q2 w hr0 hc0 hb0 hp hl q0 q01 b0 b1 hN hbn hbnn cnn cn cs hd hX wa csx csp cq m1 m2 m3 _ _ ⟨by show (1 : Int) ≤ ((R : Nat) : Int); omega, by show ((R : Nat) : Int) < 9000000000000000000; omega⟩ cml cmh cl1 cl2
    · exact wE1 A0 c0 l0 r k p0 p1 _ _ _ a b c _ _ q1 q3 q4 q2 w hr0 hc0 hb0 hp hl q0 q01 b0 b1 hN hbn hbnn cnn cn cs hd hX wa csx csp cq (bne_iff_ne.2 c4)
end Go.Proofs.Ytokhgodcamhibaa.Root
end
section
namespace Go.Proofs.Ytokhgodcamhibaa.Open
open Go.Proofs.YtokhgodcamhibaaW.PrintWords Go.ChangeShapes Go.WideShapes
section
variable {H : Type} {enc : TypeId × Value → H} {P : Program} {w : World} {base : Nat} {spare : Nat → Bool} {held : Bool}
/-- What reads as a datum at type t reads by the kind d as a value that is G. -/
def Opens {α : Type} (enc : TypeId × Value → H) (P : Program) (w : World) (base : Nat) (spare : Nat → Bool) (held : Bool) (t : TypeId) (d : Kd α) (G : α → Prop) : Prop :=
  ∀ (fuel : Nat) (cs : List Value) (x : DataW H × List MemPlace), DataW.trod enc P w base spare held fuel t cs = some x → ∃ a, d.K w a cs ∧ G a
theorem opens_int {t : TypeId} {k : IntKind} (ht : P.underlying t = some (.int k)) : Opens enc P w base spare held t (Kd.int k) (fun n => (Lit.int k n).wf = true) := by
  intro fuel cs x h
  obtain ⟨n, rfl, _, hw⟩ := DataW.trod_int ht h
  exact ⟨n, rfl, hw⟩
theorem list_choose {α : Type} {Q : Nat → α → Prop} : ∀ (n : Nat), (∀ i, i < n → ∃ a, Q i a) → ∃ l : List α, l.length = n ∧ ∀ i a, l[i]? = some a → Q i a
  | 0, _ => ⟨[], rfl, fun i a h => by simp at h⟩
  | n + 1, h => by
    obtain ⟨l, hl, hq⟩ := list_choose n (fun i hi => h i (by omega))
    obtain ⟨a, ha⟩ := h n (by omega)
    refine ⟨l ++ [a], by simp [hl], fun i b hb => ?_⟩
    rw [List.getElem?_append] at hb
    split at hb
    · exact hq i b hb
    · rename_i hi
      have hi0 : i - l.length = 0 := by
        rcases Nat.eq_zero_or_pos (i - l.length) with h0 | h0
        · exact h0
        · rw [List.getElem?_eq_none (by simp; omega)] at hb
          cases hb
      rw [hi0] at hb
      simp at hb
      subst hb
      have : i = n := by omega
      rw [this]
      exact ha
theorem opens_slice {α : Type} {t e e' : TypeId} {d : Kd α} {G : α → Prop} (ht : P.underlying t = some (.slice e)) (hc : P.cellsOf e = d.sz) (ho : Opens enc P w base spare held e d G) :
    Opens enc P w base spare held t (Kd.slice e' d) (fun xs => xs.length ≤ maxLen ∧ ∀ x ∈ xs, G x) := by
  intro fuel cs x h
  rcases DataW.trod_slice ht h with ⟨rfl, _⟩ | ⟨a, len, cap, elems, rest, n, _, rfl, _, _, hl, hm, hlen, hel, _⟩
  · exact ⟨[], ⟨none, 0, rfl, Nat.le_refl _, rfl, by simp, fun h => by simp at h⟩, by simp, fun x hx => by simp at hx⟩
  · have each : ∀ i, i < len → ∃ z : α, (∃ c, c.length = d.sz ∧ d.K w z c ∧ ∀ j u, c[j]? = some u → w.cell? (a.add (i * d.sz + j)) = some u) ∧ G z := by
      intro i hi
      have he := hel i hi
      rw [List.getElem?_eq_getElem (by omega), Option.bind_eq_some_iff] at he
      obtain ⟨c, hcs, hy⟩ := he
      obtain ⟨z, hk, hg⟩ := ho _ _ _ hy
      refine ⟨z, ⟨c, d.K_len hk, hk, fun j u hu => ?_⟩, hg⟩
      obtain ⟨_, hcl, hcell⟩ := World.cells?_some hcs
      have hj : j < c.length := (List.getElem?_eq_some_iff.1 hu).1
      have := hcell j (by omega)
      rw [hc, Addr.add_add] at this
      rw [this, hu]
    obtain ⟨l, hll, hq⟩ := list_choose len each
    refine ⟨l, ⟨some a, cap, by rw [hll], by omega, rfl, by unfold maxLen at hm; omega, fun _ => ⟨a, rfl, fun j p hp => ?_⟩⟩, by omega, fun z hz => ?_⟩
    · obtain ⟨⟨c, h1, h2, h3⟩, _⟩ := hq j p hp
      exact ⟨c, h1, h2, h3⟩
    · obtain ⟨i, hi⟩ := List.getElem?_of_mem hz
      exact (hq i z hi).2
/-- An argument: its cells, by the kind. -/
theorem opens_arg {α : Type} {t : TypeId} {d : Kd α} {G : α → Prop} {v : Value} {dd : DataW H} {p : List MemPlace} (ho : Opens enc P w base spare held t d G) (h : DataW.Trod enc P w base spare held t v dd p) : ∃ a, d.K w a v.cells.toList ∧ G a := by
  obtain ⟨fuel, hf⟩ := h
  exact ho _ _ _ hf
end
end Go.Proofs.Ytokhgodcamhibaa.Open
end
section
namespace Go.Proofs.Ytokhgodcamhibaa.fnRoots
open Go.ChangeShapes Go.WideShapes Go.ChangeAt Go.RowKit Go.Proofs.YtokhgodcamhibaaW.PrintWords Go.Proofs.Ytokhgodcamhibaa.Open
open Go.ChangeMaps (open_string shut_string)
set_option linter.unusedVariables false
set_option linter.unusedSimpArgs false
theorem own : ownKnob Try.prog.godebug = none := by kernel_rfl
theorem laidOut : laidOutB Try.prog = true := by kernel_rfl
def G5 (n : Int) : Prop := (Lit.int .u8 n).wf = true
theorem op5 {H : Type} {enc : TypeId × Value → H} {w : World} {base : Nat} {spare : Nat → Bool} {held : Bool} : Opens enc Try.prog w base spare held 5 (Kd.int .u8) G5 := opens_int Try.underlying5
def G22 (xs : List Int) : Prop := xs.length ≤ maxLen ∧ ∀ x ∈ xs, G5 x
theorem op22 {H : Type} {enc : TypeId × Value → H} {w : World} {base : Nat} {spare : Nat → Bool} {held : Bool} : Opens enc Try.prog w base spare held 22 (Kd.slice 5 (Kd.int .u8)) G22 := opens_slice Try.underlying22 (by kernel_rfl) op5
set_option maxRecDepth 100000 in
theorem lifted (os : Os) (started : os.Started) (H : Type) (enc : TypeId × Value → H) :
    ReturnsInHanded {} Try.checked os 4 .any (Rows.fnRootsSpec.pre6 enc Try.prog Try.f4 Rows.fnRootsRow.domain false) (Rows.fnRootsSpec.post enc Try.prog Try.f4 false true false false) := by
  refine returnsInHanded_of_change_sized (C := Try.checked) own started (by kernel_rfl) Try.func4
    (ChangeSpec.witness6 (enc := enc) (C := Try.checked) false ⟨#[], #[.slice none 0 0], []⟩ 8 (by kernel_rfl) (by kernel_rfl) (by kernel_rfl) (by kernel_rfl)) ?_
  intro W base args ds gs before hval0 hW hcnd hsz0 _
  have hval : ∀ (j : Nat) t v, Try.f4.params[j]? = some t → args[j]? = some v → Value.okWide Try.prog W .any base t v := hval0
  have hW' := hW
  obtain ⟨p, q, hA0, hV, rfl, hfz, hnd⟩ := hW
  have hA : DataW.TrodAll enc Try.prog W 0 (fun _ => true) true Try.f4.params.toList args.toList ds p := hA0
  rw [Try.params4] at hA hval
  obtain ⟨v0, vs0, d0, ds0, p0, q0, hargs0, rfl, rfl, h0, r0⟩ := trodAll_cons hA
  obtain ⟨rfl, rfl, rfl⟩ := trodAll_nil r0
  obtain rfl : args = #[v0] := by cases args; simp_all
  obtain ⟨rfl, rfl⟩ := trodVars_none hV
  have k0 := h0
  have lt0 : ∀ x ∈ p0, x.block < W.heap.size := by obtain ⟨m, hm⟩ := k0; exact DataW.trod_lt m _ _ _ hm
  obtain ⟨A0, n0, c0, rfl⟩ := okWide_slice Try.underlying22 (hval 0 22 v0 rfl rfl)
  obtain ⟨x0, hk0, hg0⟩ := opens_arg op22 h0
  obtain ⟨Ax0, cx0, ex0, hl0, hr0⟩ := hk0
  simp only [Value.cells, List.cons.injEq, Value.slice.injEq, and_true, Array.toList] at ex0
  obtain ⟨rfl, rfl, rfl⟩ := ex0
  clear hA0 hval0 hsz0
  refine (Root.law A0 c0 x0 W hr0 hl0 hg0).mono fun e W' ⟨he, bel⟩ => ?_
  subst he
  exact ⟨_, rfl, _, _, _, [], _, [], hW', trodAll_mk1 (shut_bool Try.underlying4 _), (trodAll_cons_mk (Below.trod laidOut (by kernel_rfl) (of_decide_eq_true (by kernel_rfl)) k0 bel lt0) trodAll_mk0), rfl, bel.frame _, fun h => by cases h⟩
theorem and_true_ {a b : Bool} (ha : a = true) (hb : b = true) : (a && b) = true := by rw [ha, hb]; rfl
theorem closed0 : (Rows.fnRootsRow.wf (OpenSpec.ofChange Rows.fnRootsSpec)) = true := by kernel_rfl
theorem closed1 : (laidOutB Try.pinned.checked.prog) = true := by kernel_rfl
theorem closed2 : (mapsRowed Try.pinned.checked.prog) = true := by kernel_rfl
theorem closed3 : (Try.f4.params.all (Try.pinned.checked.prog.readableRec ·)) = true := by kernel_rfl
theorem closed4 : (namedTie Try.pinned.checked.prog Rows.fnRootsRow.named Rows.fnRootsSpec.vars) = true := by kernel_rfl
theorem closed5 : ((Rows.fnRootsRow.stops == [])) = true := by kernel_rfl
theorem closed6 : ((Try.pinned.checked.prog.stops == [])) = true := by kernel_rfl
theorem closed7 : ((Rows.fnRootsRow.knobs == [])) = true := by kernel_rfl
theorem closed8 : ((Try.pinned.checked.prog.stopKnobs == [])) = true := by kernel_rfl
theorem closed9 : ((Rows.fnRootsRow.inPlace == Try.pinned.checked.prog.inPlace 4)) = true := by kernel_rfl
theorem closed10 : ((Rows.fnRootsRow.unfollowed == Try.pinned.checked.prog.unfollowed 4)) = true := by kernel_rfl
theorem closed11 : ((Rows.fnRootsRow.recurses == Try.pinned.checked.prog.recurses 4)) = true := by kernel_rfl
theorem closed12 : ((Rows.fnRootsRow.named == Try.pinned.checked.prog.varsNamed 4)) = true := by kernel_rfl
theorem closed13 : ((Rows.fnRootsRow.maps == ((Try.f4.params.toList ++ Rows.fnRootsSpec.plain.varTypes Try.pinned.checked.prog)).any (Try.pinned.checked.prog.mapsRec ·))) = true := by kernel_rfl
theorem closed14 : ((Rows.fnRootsRow.ifaces == ((Try.f4.params.toList ++ Rows.fnRootsSpec.plain.varTypes Try.pinned.checked.prog)).any (Try.pinned.checked.prog.ifacesRec ·))) = true := by kernel_rfl
theorem closed15 : ((Rows.fnRootsRow.mapsOut == Try.pinned.checked.prog.mapsAmong Try.f4.resultTypes.toList)) = true := by kernel_rfl
theorem closed16 : ((Rows.fnRootsRow.loops == ((Try.f4.params.toList ++ Rows.fnRootsSpec.plain.varTypes Try.pinned.checked.prog)).any (Try.pinned.checked.prog.loopsFrom ·))) = true := by kernel_rfl
theorem closed17 : ((Rows.fnRootsRow.wideKeys == (Try.f4.params.toList ++ Rows.fnRootsSpec.plain.varTypes Try.pinned.checked.prog ++ Try.f4.resultTypes.toList).any (Try.pinned.checked.prog.wideKeysFrom ·))) = true := by kernel_rfl
theorem closed18 : (Rows.fnRootsSpec.vars.all (Try.pinned.checked.prog.varReadable ·)) = true := by kernel_rfl
theorem closed19 : (Try.f4.resultTypes.all (fun t => Try.pinned.checked.prog.readableRec t && decide (t < Try.pinned.checked.prog.types.size))) = true := by kernel_rfl
theorem closed20 : ((Rows.fnRootsRow.ifacesOut == Try.f4.resultTypes.toList.any (Try.pinned.checked.prog.ifacesRec ·))) = true := by kernel_rfl
theorem closed21 : ((Rows.fnRootsRow.loopsOut == Try.f4.resultTypes.toList.any (Try.pinned.checked.prog.loopsFrom ·))) = true := by kernel_rfl
theorem closed22 : ((Rows.fnRootsRow.plainKeys == Try.pinned.checked.prog.plainKeys)) = true := by kernel_rfl
theorem closed23 : (Rows.fnRootsRow.shortTexts.isNone) = true := by kernel_rfl
theorem closed24 : (Try.pinned.checked.prog.stopsHeard) = true := by kernel_rfl
theorem closed25 : (Try.pinned.checked.prog.mayEnter) = true := by kernel_rfl
theorem closed26 : ((Rows.fnRootsRow.lifted == Try.pinned.checked.prog.liftsFinal)) = true := by kernel_rfl
theorem closed27 : ((Try.pinned.checked.prog.make == some Rows.fnRootsRow.make)) = true := by kernel_rfl
theorem closed28 : ((Rows.fnRootsRow.kinds == (if Rows.fnRootsRow.domain.isEmpty then [] else Try.f4.params.toList.map fun t => match Try.pinned.checked.prog.underlying t with | some (.int k) => some k | _ => none))) = true := by kernel_rfl
theorem closed29 : ((Rows.fnRootsRow.pinned == Rows.fnRootsRow.pinnedBy)) = true := by kernel_rfl
theorem closed30 : ((Rows.fnRootsRow.veiled == (Try.f4.params.toList ++ Rows.fnRootsSpec.plain.varTypes Try.pinned.checked.prog ++ Try.f4.resultTypes.toList).any (Try.pinned.checked.prog.veiledRec ·))) = true := by kernel_rfl
theorem closed31 : (Rows.fnRootsRow.veiledFits Try.pinned.checked.prog Try.f4.params.toList (Try.f4.params.toList ++ Rows.fnRootsSpec.plain.varTypes Try.pinned.checked.prog ++ Try.f4.resultTypes.toList)) = true := by kernel_rfl
set_option maxRecDepth 100000 in
theorem closed : joinedFacts Try.pinned.checked.prog 4 Try.f4 Rows.fnRootsSpec Rows.fnRootsRow = true := by
  show (Rows.fnRootsRow.wf (OpenSpec.ofChange Rows.fnRootsSpec) && laidOutB Try.pinned.checked.prog && mapsRowed Try.pinned.checked.prog && Try.f4.params.all (Try.pinned.checked.prog.readableRec ·) && namedTie Try.pinned.checked.prog Rows.fnRootsRow.named Rows.fnRootsSpec.vars && (Rows.fnRootsRow.stops == []) && (Try.pinned.checked.prog.stops == []) && (Rows.fnRootsRow.knobs == []) && (Try.pinned.checked.prog.stopKnobs == []) && (Rows.fnRootsRow.inPlace == Try.pinned.checked.prog.inPlace 4) && (Rows.fnRootsRow.unfollowed == Try.pinned.checked.prog.unfollowed 4) && (Rows.fnRootsRow.recurses == Try.pinned.checked.prog.recurses 4) && (Rows.fnRootsRow.named == Try.pinned.checked.prog.varsNamed 4) && (Rows.fnRootsRow.maps == ((Try.f4.params.toList ++ Rows.fnRootsSpec.plain.varTypes Try.pinned.checked.prog)).any (Try.pinned.checked.prog.mapsRec ·)) && (Rows.fnRootsRow.ifaces == ((Try.f4.params.toList ++ Rows.fnRootsSpec.plain.varTypes Try.pinned.checked.prog)).any (Try.pinned.checked.prog.ifacesRec ·)) && (Rows.fnRootsRow.mapsOut == Try.pinned.checked.prog.mapsAmong Try.f4.resultTypes.toList) && (Rows.fnRootsRow.loops == ((Try.f4.params.toList ++ Rows.fnRootsSpec.plain.varTypes Try.pinned.checked.prog)).any (Try.pinned.checked.prog.loopsFrom ·)) && (Rows.fnRootsRow.wideKeys == (Try.f4.params.toList ++ Rows.fnRootsSpec.plain.varTypes Try.pinned.checked.prog ++ Try.f4.resultTypes.toList).any (Try.pinned.checked.prog.wideKeysFrom ·)) && Rows.fnRootsSpec.vars.all (Try.pinned.checked.prog.varReadable ·) && Try.f4.resultTypes.all (fun t => Try.pinned.checked.prog.readableRec t && decide (t < Try.pinned.checked.prog.types.size)) && (Rows.fnRootsRow.ifacesOut == Try.f4.resultTypes.toList.any (Try.pinned.checked.prog.ifacesRec ·)) && (Rows.fnRootsRow.loopsOut == Try.f4.resultTypes.toList.any (Try.pinned.checked.prog.loopsFrom ·)) && (Rows.fnRootsRow.plainKeys == Try.pinned.checked.prog.plainKeys) && Rows.fnRootsRow.shortTexts.isNone && Try.pinned.checked.prog.stopsHeard && Try.pinned.checked.prog.mayEnter && (Rows.fnRootsRow.lifted == Try.pinned.checked.prog.liftsFinal) && (Try.pinned.checked.prog.make == some Rows.fnRootsRow.make) && (Rows.fnRootsRow.kinds == (if Rows.fnRootsRow.domain.isEmpty then [] else Try.f4.params.toList.map fun t => match Try.pinned.checked.prog.underlying t with | some (.int k) => some k | _ => none)) && (Rows.fnRootsRow.pinned == Rows.fnRootsRow.pinnedBy) && (Rows.fnRootsRow.veiled == (Try.f4.params.toList ++ Rows.fnRootsSpec.plain.varTypes Try.pinned.checked.prog ++ Try.f4.resultTypes.toList).any (Try.pinned.checked.prog.veiledRec ·)) && Rows.fnRootsRow.veiledFits Try.pinned.checked.prog Try.f4.params.toList (Try.f4.params.toList ++ Rows.fnRootsSpec.plain.varTypes Try.pinned.checked.prog ++ Try.f4.resultTypes.toList)) = true
  exact (and_true_ (and_true_ (and_true_ (and_true_ (and_true_ (and_true_ (and_true_ (and_true_ (and_true_ (and_true_ (and_true_ (and_true_ (and_true_ (and_true_ (and_true_ (and_true_ (and_true_ (and_true_ (and_true_ (and_true_ (and_true_ (and_true_ (and_true_ (and_true_ (and_true_ (and_true_ (and_true_ (and_true_ (and_true_ (and_true_ (and_true_ closed0 closed1) closed2) closed3) closed4) closed5) closed6) closed7) closed8) closed9) closed10) closed11) closed12) closed13) closed14) closed15) closed16) closed17) closed18) closed19) closed20) closed21) closed22) closed23) closed24) closed25) closed26) closed27) closed28) closed29) closed30) closed31)
theorem named : Try.pinned.checked.prog.funcNamed Rows.fnRootsRow.func = some 4 := by kernel_rfl
theorem over : Rows.fnRootsRow.holds Try.pinned (OpenSpec.ofChange Rows.fnRootsSpec) :=
  OpenClaim.holds_of_wide 4 Try.f4 rfl rfl rfl rfl rfl rfl rfl ⟨rfl, rfl, rfl, rfl, rfl⟩ rfl rfl rfl rfl rfl named Try.func4 closed
    (of_decide_eq_true (by kernel_rfl)) (by unfold Func.isWrapper; first | (rw [if_pos (by decide +kernel)]; kernel_rfl) | (rw [if_neg (by decide +kernel)]; exact ⟨rfl, rfl⟩))
    (fun os started H enc _ => lifted os started H enc)
theorem proved : Rows.FnRootsSaid := over
#print axioms proved
end Go.Proofs.Ytokhgodcamhibaa.fnRoots
namespace Go.Proofs.Ytokhgodcamhibaa
/-- The row, under a short name, for the claim. -/
theorem fnRoots_holds : Rows.FnRootsSaid := fnRoots.proved
end Go.Proofs.Ytokhgodcamhibaa
end
