/- Part 16 of the proof: general lemmas, contracts of functions, walks. No condition of its own. -/
import Derived.Test.YtokhgodcamhibaaBd14
import Derived.Test.YtokhgodcamhibaaBd15
section
namespace Go.Proofs.Ytokhgodcamhibaa.QFnExactDoBinary
open Go.RowKit Go.Proofs.YtokhgodcamhibaaW.PrintWords Go.Proofs.YtokhgodcamhibaaW.PrintLast Go.Proofs.YtokhgodcamhibaaW.PrintMore
attribute [local go_sem] max_two min_two max_three min_three max_four min_four run_field34_0 max2_mx min2_mn   -- for this text's walks alone
set_option linter.unusedVariables false
set_option linter.unusedSimpArgs false
mutual
def spec_Add.j0 : Nat → Int → Int → Bool → Int → Bool → Int → Int → Int → Bool → Int → Int → Option (Int)
 | 0, _, _, _, _, _, _, _, _, _, _, _ => none
 | k + 1, x0, x1, x16, x221000, x221001, x221002, x221003, x226000, x226001, x226002, x226003 => if x16 = true then (some 9221120237041090560) else (if x221000 = 2 then (spec_Add.j1 k x0 x1 (x226000 == 2) x221000 x221001 x221002 x221003 x226000 x226001 x226002 x226003) else (spec_Add.j1 k x0 x1 false x221000 x221001 x221002 x221003 x226000 x226001 x226002 x226003))
def spec_Add.j1 : Nat → Int → Int → Bool → Int → Bool → Int → Int → Int → Bool → Int → Int → Option (Int)
 | 0, _, _, _, _, _, _, _, _, _, _, _ => none
 | k + 1, x0, x1, x25, x221000, x221001, x221002, x221003, x226000, x226001, x226002, x226003 => if x25 = true then (if (x221001 != x226001) = true then (some 9221120237041090560) else (some x0)) else (if x221000 = 2 then (some x0) else (if x226000 = 2 then (some x1) else (if x221000 = 3 then (spec_Add.j2 k x0 x1 (x226000 == 3) x221000 x221001 x221002 x221003 x226000 x226001 x226002 x226003) else (spec_Add.j2 k x0 x1 false x221000 x221001 x221002 x221003 x226000 x226001 x226002 x226003))))
def spec_Add.j2 : Nat → Int → Int → Bool → Int → Bool → Int → Int → Int → Bool → Int → Int → Option (Int)
 | 0, _, _, _, _, _, _, _, _, _, _, _ => none
 | k + 1, x0, x1, x50, x221000, x221001, x221002, x221003, x226000, x226001, x226002, x226003 => if x50 = true then (if x221001 = true then (if x226001 = true then (some x0) else (some 0)) else (some 0)) else (if x221000 = 3 then (some x1) else (if x226000 = 3 then (some x0) else (if x221003 < x226003 then (spec_Add.j3 k true x221000 x221001 x221002 x221003 x226000 x226001 x226002 x226003) else (if x221003 = x226003 then (spec_Add.j3 k (decide (x221002 < x226002)) x221000 x221001 x221002 x221003 x226000 x226001 x226002 x226003) else (spec_Add.j3 k false x221000 x221001 x221002 x221003 x226000 x226001 x226002 x226003)))))
def spec_Add.j3 : Nat → Bool → Int → Bool → Int → Int → Int → Bool → Int → Int → Option (Int)
 | 0, _, _, _, _, _, _, _, _, _ => none
 | k + 1, x94, x221000, x221001, x221002, x221003, x226000, x226001, x226002, x226003 => if x94 = true then (spec_Add.j4 k x226000 x226001 x226002 x226003 x221000 x221001 x221002 x221003) else (spec_Add.j4 k x221000 x221001 x221002 x221003 x226000 x226001 x226002 x226003)
def spec_Add.j4 : Nat → Int → Bool → Int → Int → Int → Bool → Int → Int → Option (Int)
 | 0, _, _, _, _, _, _, _, _ => none
 | k + 1, x221000, x221001, x221002, x221003, x226000, x226001, x226002, x226003 => spec_Add.l0 k x221002 x221003 x221000 x221001 x221002 x221003 x226000 x226001 x226002 x226003
def spec_Add.j6 : Nat → Int → Int → Int → Bool → Int → Int → Int → Bool → Int → Int → Option (Int)
 | 0, _, _, _, _, _, _, _, _, _, _ => none
 | k + 1, x7, x8, x221000, x221001, x221002, x221003, x226000, x226001, x226002, x226003 => spec_Add.l1 k x7 x8 x226002 false x226003 x221000 x221001 x221002 x221003 x226000 x226001 x226002 x226003
def spec_Add.l1 : Nat → Int → Int → Int → Bool → Int → Int → Bool → Int → Int → Int → Bool → Int → Int → Option (Int)
 | 0, _, _, _, _, _, _, _, _, _, _, _, _, _ => none
 | k + 1, x7, x8, x9, x10, x11, x221000, x221001, x221002, x221003, x226000, x226001, x226002, x226003 => if x11 < x8 then (if x10 = true then (if (IntKind.u64.wrap (Int.tdiv x9 2)) = 0 then (spec_Add.l1 k x7 x8 (IntKind.u64.wrap (Int.tdiv x9 2)) true (wrap64 (x8 + 1)) x221000 x221001 x221002 x221003 x226000 x226001 x226002 x226003) else (spec_Add.l1 k x7 x8 (IntKind.u64.wrap (Int.tdiv x9 2)) true (wrap64 (x11 + 1)) x221000 x221001 x221002 x221003 x226000 x226001 x226002 x226003)) else (if (IntKind.u64.wrap (Int.tdiv x9 2)) = 0 then (if (Int.tmod x9 2) = 1 then (spec_Add.l1 k x7 x8 (IntKind.u64.wrap (Int.tdiv x9 2)) ((Int.tmod x9 2) == 1) (wrap64 (x8 + 1)) x221000 x221001 x221002 x221003 x226000 x226001 x226002 x226003) else (spec_Add.l1 k x7 x8 (IntKind.u64.wrap (Int.tdiv x9 2)) ((Int.tmod x9 2) == 1) (wrap64 (x11 + 1)) x221000 x221001 x221002 x221003 x226000 x226001 x226002 x226003)) else (spec_Add.l1 k x7 x8 (IntKind.u64.wrap (Int.tdiv x9 2)) ((Int.tmod x9 2) == 1) (wrap64 (x11 + 1)) x221000 x221001 x221002 x221003 x226000 x226001 x226002 x226003))) else (if (x221001 == x226001) = true then ((spec_RoundTo.f k x221001 (IntKind.u64.wrap (x7 + x9)) x8 x10).bind fun t227 => (some t227)) else (if x7 = x9 then (spec_Add.j8 k x7 x8 x9 x10 (!x10) x221000 x221001 x221002 x221003 x226000 x226001 x226002 x226003) else (spec_Add.j8 k x7 x8 x9 x10 false x221000 x221001 x221002 x221003 x226000 x226001 x226002 x226003)))
def spec_Add.j8 : Nat → Int → Int → Int → Bool → Bool → Int → Bool → Int → Int → Int → Bool → Int → Int → Option (Int)
 | 0, _, _, _, _, _, _, _, _, _, _, _, _, _ => none
 | k + 1, x7, x8, x9, x10, x156, x221000, x221001, x221002, x221003, x226000, x226001, x226002, x226003 => if x156 = true then (some 0) else (if x7 < x9 then ((spec_RoundTo.f k x226001 (IntKind.u64.wrap (x9 - x7)) x8 false).bind fun t228 => (some t228)) else (if x10 = true then ((spec_RoundTo.f k x221001 (IntKind.u64.wrap ((IntKind.u64.wrap (x7 - x9)) - 1)) x8 true).bind fun t229 => (some t229)) else ((spec_RoundTo.f k x221001 (IntKind.u64.wrap (x7 - x9)) x8 false).bind fun t230 => (some t230))))
def spec_Add.l0 : Nat → Int → Int → Int → Bool → Int → Int → Int → Bool → Int → Int → Option (Int)
 | 0, _, _, _, _, _, _, _, _, _, _ => none
 | k + 1, x7, x8, x221000, x221001, x221002, x221003, x226000, x226001, x226002, x226003 => (spec_l03Pow.f k 61).bind fun t226 => (if x7 < t226 then (if x8 > x226003 then (spec_Add.l0 k (IntKind.u64.wrap (x7 * 2)) (wrap64 (x8 - 1)) x221000 x221001 x221002 x221003 x226000 x226001 x226002 x226003) else (spec_Add.j6 k x7 x8 x221000 x221001 x221002 x221003 x226000 x226001 x226002 x226003)) else (spec_Add.j6 k x7 x8 x221000 x221001 x221002 x221003 x226000 x226001 x226002 x226003))
end
def spec_Add.f (k : Nat) (a0 : Int) (a1 : Int) : Option (Int) := (spec_PartsOfNumber.f k a0).bind fun bt216 => ((spec_PartsOfNumber.f k a1).bind fun bt221 => (if bt216.1 = 1 then (spec_Add.j0 k a0 a1 true bt216.1 bt216.2.1 bt216.2.2.1 bt216.2.2.2 bt221.1 bt221.2.1 bt221.2.2.1 bt221.2.2.2) else (spec_Add.j0 k a0 a1 (bt221.1 == 1) bt216.1 bt216.2.1 bt216.2.2.1 bt216.2.2.2 bt221.1 bt221.2.1 bt221.2.2.1 bt221.2.2.2)))
theorem spec_Add.mono_l : ∀ k, (∀ y0 y1 y2 y3 y4 y5 y6 y7 y8 y9 y10, LeO (spec_Add.j0 k y0 y1 y2 y3 y4 y5 y6 y7 y8 y9 y10) (spec_Add.j0 (k + 1) y0 y1 y2 y3 y4 y5 y6 y7 y8 y9 y10)) ∧ (∀ y0 y1 y2 y3 y4 y5 y6 y7 y8 y9 y10, LeO (spec_Add.j1 k y0 y1 y2 y3 y4 y5 y6 y7 y8 y9 y10) (spec_Add.j1 (k + 1) y0 y1 y2 y3 y4 y5 y6 y7 y8 y9 y10)) ∧ (∀ y0 y1 y2 y3 y4 y5 y6 y7 y8 y9 y10, LeO (spec_Add.j2 k y0 y1 y2 y3 y4 y5 y6 y7 y8 y9 y10) (spec_Add.j2 (k + 1) y0 y1 y2 y3 y4 y5 y6 y7 y8 y9 y10)) ∧ (∀ y0 y1 y2 y3 y4 y5 y6 y7 y8, LeO (spec_Add.j3 k y0 y1 y2 y3 y4 y5 y6 y7 y8) (spec_Add.j3 (k + 1) y0 y1 y2 y3 y4 y5 y6 y7 y8)) ∧ (∀ y0 y1 y2 y3 y4 y5 y6 y7, LeO (spec_Add.j4 k y0 y1 y2 y3 y4 y5 y6 y7) (spec_Add.j4 (k + 1) y0 y1 y2 y3 y4 y5 y6 y7)) ∧ (∀ y0 y1 y2 y3 y4 y5 y6 y7 y8 y9, LeO (spec_Add.j6 k y0 y1 y2 y3 y4 y5 y6 y7 y8 y9) (spec_Add.j6 (k + 1) y0 y1 y2 y3 y4 y5 y6 y7 y8 y9)) ∧ (∀ y0 y1 y2 y3 y4 y5 y6 y7 y8 y9 y10 y11 y12, LeO (spec_Add.l1 k y0 y1 y2 y3 y4 y5 y6 y7 y8 y9 y10 y11 y12) (spec_Add.l1 (k + 1) y0 y1 y2 y3 y4 y5 y6 y7 y8 y9 y10 y11 y12)) ∧ (∀ y0 y1 y2 y3 y4 y5 y6 y7 y8 y9 y10 y11 y12, LeO (spec_Add.j8 k y0 y1 y2 y3 y4 y5 y6 y7 y8 y9 y10 y11 y12) (spec_Add.j8 (k + 1) y0 y1 y2 y3 y4 y5 y6 y7 y8 y9 y10 y11 y12)) ∧ (∀ y0 y1 y2 y3 y4 y5 y6 y7 y8 y9, LeO (spec_Add.l0 k y0 y1 y2 y3 y4 y5 y6 y7 y8 y9) (spec_Add.l0 (k + 1) y0 y1 y2 y3 y4 y5 y6 y7 y8 y9))
 | 0 => ⟨fun _ _ _ _ _ _ _ _ _ _ _ r h => by simp [spec_Add.j0] at h, fun _ _ _ _ _ _ _ _ _ _ _ r h => by simp [spec_Add.j1] at h, fun _ _ _ _ _ _ _ _ _ _ _ r h => by simp [spec_Add.j2] at h, fun _ _ _ _ _ _ _ _ _ r h => by simp [spec_Add.j3] at h, fun _ _ _ _ _ _ _ _ r h => by simp [spec_Add.j4] at h, fun _ _ _ _ _ _ _ _ _ _ r h => by simp [spec_Add.j6] at h, fun _ _ _ _ _ _ _ _ _ _ _ _ _ r h => by simp [spec_Add.l1] at h, fun _ _ _ _ _ _ _ _ _ _ _ _ _ r h => by simp [spec_Add.j8] at h, fun _ _ _ _ _ _ _ _ _ _ r h => by simp [spec_Add.l0] at h⟩
 | k + 1 => by
  obtain ⟨ih0, ih1, ih2, ih3, ih4, ih5, ih6, ih7, ih8⟩ := spec_Add.mono_l k
  refine ⟨?_, ?_, ?_, ?_, ?_, ?_, ?_, ?_, ?_⟩
  ·intro y0 y1 y2 y3 y4 y5 y6 y7 y8 y9 y10
   unfold spec_Add.j0
   repeat' first
   | (with_reducible exact ih0 _ _ _ _ _ _ _ _ _ _ _)
   | (with_reducible exact ih1 _ _ _ _ _ _ _ _ _ _ _)
   | (with_reducible exact ih2 _ _ _ _ _ _ _ _ _ _ _)
   | (with_reducible exact ih3 _ _ _ _ _ _ _ _ _)
   | (with_reducible exact ih4 _ _ _ _ _ _ _ _)
   | (with_reducible exact ih5 _ _ _ _ _ _ _ _ _ _)
   | (with_reducible exact ih6 _ _ _ _ _ _ _ _ _ _ _ _ _)
   | (with_reducible exact ih7 _ _ _ _ _ _ _ _ _ _ _ _ _)
   | (with_reducible exact ih8 _ _ _ _ _ _ _ _ _ _)
   | (with_reducible exact spec_PartsOfNumber.mono _ _)
   | (with_reducible exact spec_RoundTo.mono _ _ _ _ _)
   | (with_reducible exact spec_l03Pow.mono _ _)
   | (with_reducible exact LeO.refl _)
   | (with_reducible exact LeO.none _)
   | (with_reducible refine LeO.ite ?_ ?_)
   | (with_reducible refine LeO.bind ?_ (fun _ => ?_))
   | exact ih0 _ _ _ _ _ _ _ _ _ _ _
   | exact ih1 _ _ _ _ _ _ _ _ _ _ _
   | exact ih2 _ _ _ _ _ _ _ _ _ _ _
   | exact ih3 _ _ _ _ _ _ _ _ _
   | exact ih4 _ _ _ _ _ _ _ _
   | exact ih5 _ _ _ _ _ _ _ _ _ _
   | exact ih6 _ _ _ _ _ _ _ _ _ _ _ _ _
   | exact ih7 _ _ _ _ _ _ _ _ _ _ _ _ _
   | exact ih8 _ _ _ _ _ _ _ _ _ _
   | exact spec_PartsOfNumber.mono _ _
   | exact spec_RoundTo.mono _ _ _ _ _
   | exact spec_l03Pow.mono _ _
   | exact LeO.none _
   | refine LeO.ite ?_ ?_
   | refine LeO.bind ?_ (fun _ => ?_)
  ·intro y0 y1 y2 y3 y4 y5 y6 y7 y8 y9 y10
   unfold spec_Add.j1
   repeat' first
   | (with_reducible exact ih0 _ _ _ _ _ _ _ _ _ _ _)
   | (with_reducible exact ih1 _ _ _ _ _ _ _ _ _ _ _)
   | (with_reducible exact ih2 _ _ _ _ _ _ _ _ _ _ _)
   | (with_reducible exact ih3 _ _ _ _ _ _ _ _ _)
   | (with_reducible exact ih4 _ _ _ _ _ _ _ _)
   | (with_reducible exact ih5 _ _ _ _ _ _ _ _ _ _)
   | (with_reducible exact ih6 _ _ _ _ _ _ _ _ _ _ _ _ _)
   | (with_reducible exact ih7 _ _ _ _ _ _ _ _ _ _ _ _ _)
   | (with_reducible exact ih8 _ _ _ _ _ _ _ _ _ _)
   | (with_reducible exact spec_PartsOfNumber.mono _ _)
   | (with_reducible exact spec_RoundTo.mono _ _ _ _ _)
   | (with_reducible exact spec_l03Pow.mono _ _)
   | (with_reducible exact LeO.refl _)
   | (with_reducible exact LeO.none _)
   | (with_reducible refine LeO.ite ?_ ?_)
   | (with_reducible refine LeO.bind ?_ (fun _ => ?_))
   | exact ih0 _ _ _ _ _ _ _ _ _ _ _
   | exact ih1 _ _ _ _ _ _ _ _ _ _ _
   | exact ih2 _ _ _ _ _ _ _ _ _ _ _
   | exact ih3 _ _ _ _ _ _ _ _ _
   | exact ih4 _ _ _ _ _ _ _ _
   | exact ih5 _ _ _ _ _ _ _ _ _ _
   | exact ih6 _ _ _ _ _ _ _ _ _ _ _ _ _
   | exact ih7 _ _ _ _ _ _ _ _ _ _ _ _ _
   | exact ih8 _ _ _ _ _ _ _ _ _ _
   | exact spec_PartsOfNumber.mono _ _
   | exact spec_RoundTo.mono _ _ _ _ _
   | exact spec_l03Pow.mono _ _
   | exact LeO.none _
   | refine LeO.ite ?_ ?_
   | refine LeO.bind ?_ (fun _ => ?_)
  ·intro y0 y1 y2 y3 y4 y5 y6 y7 y8 y9 y10
   unfold spec_Add.j2
   repeat' first
   | (with_reducible exact ih0 _ _ _ _ _ _ _ _ _ _ _)
   | (with_reducible exact ih1 _ _ _ _ _ _ _ _ _ _ _)
   | (with_reducible exact ih2 _ _ _ _ _ _ _ _ _ _ _)
   | (with_reducible exact ih3 _ _ _ _ _ _ _ _ _)
   | (with_reducible exact ih4 _ _ _ _ _ _ _ _)
   | (with_reducible exact ih5 _ _ _ _ _ _ _ _ _ _)
   | (with_reducible exact ih6 _ _ _ _ _ _ _ _ _ _ _ _ _)
   | (with_reducible exact ih7 _ _ _ _ _ _ _ _ _ _ _ _ _)
   | (with_reducible exact ih8 _ _ _ _ _ _ _ _ _ _)
   | (with_reducible exact spec_PartsOfNumber.mono _ _)
   | (with_reducible exact spec_RoundTo.mono _ _ _ _ _)
   | (with_reducible exact spec_l03Pow.mono _ _)
   | (with_reducible exact LeO.refl _)
   | (with_reducible exact LeO.none _)
   | (with_reducible refine LeO.ite ?_ ?_)
   | (with_reducible refine LeO.bind ?_ (fun _ => ?_))
   | exact ih0 _ _ _ _ _ _ _ _ _ _ _
   | exact ih1 _ _ _ _ _ _ _ _ _ _ _
   | exact ih2 _ _ _ _ _ _ _ _ _ _ _
   | exact ih3 _ _ _ _ _ _ _ _ _
   | exact ih4 _ _ _ _ _ _ _ _
   | exact ih5 _ _ _ _ _ _ _ _ _ _
   | exact ih6 _ _ _ _ _ _ _ _ _ _ _ _ _
   | exact ih7 _ _ _ _ _ _ _ _ _ _ _ _ _
   | exact ih8 _ _ _ _ _ _ _ _ _ _
   | exact spec_PartsOfNumber.mono _ _
   | exact spec_RoundTo.mono _ _ _ _ _
   | exact spec_l03Pow.mono _ _
   | exact LeO.none _
   | refine LeO.ite ?_ ?_
   | refine LeO.bind ?_ (fun _ => ?_)
  ·intro y0 y1 y2 y3 y4 y5 y6 y7 y8
   unfold spec_Add.j3
   repeat' first
   | (with_reducible exact ih0 _ _ _ _ _ _ _ _ _ _ _)
   | (with_reducible exact ih1 _ _ _ _ _ _ _ _ _ _ _)
   | (with_reducible exact ih2 _ _ _ _ _ _ _ _ _ _ _)
   | (with_reducible exact ih3 _ _ _ _ _ _ _ _ _)
   | (with_reducible exact ih4 _ _ _ _ _ _ _ _)
   | (with_reducible exact ih5 _ _ _ _ _ _ _ _ _ _)
   | (with_reducible exact ih6 _ _ _ _ _ _ _ _ _ _ _ _ _)
   | (with_reducible exact ih7 _ _ _ _ _ _ _ _ _ _ _ _ _)
   | (with_reducible exact ih8 _ _ _ _ _ _ _ _ _ _)
   | (with_reducible exact spec_PartsOfNumber.mono _ _)
   | (with_reducible exact spec_RoundTo.mono _ _ _ _ _)
   | (with_reducible exact spec_l03Pow.mono _ _)
   | (with_reducible exact LeO.refl _)
   | (with_reducible exact LeO.none _)
   | (with_reducible refine LeO.ite ?_ ?_)
   | (with_reducible refine LeO.bind ?_ (fun _ => ?_))
   | exact ih0 _ _ _ _ _ _ _ _ _ _ _
   | exact ih1 _ _ _ _ _ _ _ _ _ _ _
   | exact ih2 _ _ _ _ _ _ _ _ _ _ _
   | exact ih3 _ _ _ _ _ _ _ _ _
   | exact ih4 _ _ _ _ _ _ _ _
   | exact ih5 _ _ _ _ _ _ _ _ _ _
   | exact ih6 _ _ _ _ _ _ _ _ _ _ _ _ _
   | exact ih7 _ _ _ _ _ _ _ _ _ _ _ _ _
   | exact ih8 _ _ _ _ _ _ _ _ _ _
   | exact spec_PartsOfNumber.mono _ _
   | exact spec_RoundTo.mono _ _ _ _ _
   | exact spec_l03Pow.mono _ _
   | exact LeO.none _
   | refine LeO.ite ?_ ?_
   | refine LeO.bind ?_ (fun _ => ?_)
  ·intro y0 y1 y2 y3 y4 y5 y6 y7
   unfold spec_Add.j4
   repeat' first
   | (with_reducible exact ih0 _ _ _ _ _ _ _ _ _ _ _)
   | (with_reducible exact ih1 _ _ _ _ _ _ _ _ _ _ _)
   | (with_reducible exact ih2 _ _ _ _ _ _ _ _ _ _ _)
   | (with_reducible exact ih3 _ _ _ _ _ _ _ _ _)
   | (with_reducible exact ih4 _ _ _ _ _ _ _ _)
   | (with_reducible exact ih5 _ _ _ _ _ _ _ _ _ _)
   | (with_reducible exact ih6 _ _ _ _ _ _ _ _ _ _ _ _ _)
   | (with_reducible exact ih7 _ _ _ _ _ _ _ _ _ _ _ _ _)
   | (with_reducible exact ih8 _ _ _ _ _ _ _ _ _ _)
   | (with_reducible exact spec_PartsOfNumber.mono _ _)
   | (with_reducible exact spec_RoundTo.mono _ _ _ _ _)
   | (with_reducible exact spec_l03Pow.mono _ _)
   | (with_reducible exact LeO.refl _)
   | (with_reducible exact LeO.none _)
   | (with_reducible refine LeO.ite ?_ ?_)
   | (with_reducible refine LeO.bind ?_ (fun _ => ?_))
   | exact ih0 _ _ _ _ _ _ _ _ _ _ _
   | exact ih1 _ _ _ _ _ _ _ _ _ _ _
   | exact ih2 _ _ _ _ _ _ _ _ _ _ _
   | exact ih3 _ _ _ _ _ _ _ _ _
   | exact ih4 _ _ _ _ _ _ _ _
   | exact ih5 _ _ _ _ _ _ _ _ _ _
   | exact ih6 _ _ _ _ _ _ _ _ _ _ _ _ _
   | exact ih7 _ _ _ _ _ _ _ _ _ _ _ _ _
   | exact ih8 _ _ _ _ _ _ _ _ _ _
   | exact spec_PartsOfNumber.mono _ _
   | exact spec_RoundTo.mono _ _ _ _ _
   | exact spec_l03Pow.mono _ _
   | exact LeO.none _
   | refine LeO.ite ?_ ?_
   | refine LeO.bind ?_ (fun _ => ?_)
  ·intro y0 y1 y2 y3 y4 y5 y6 y7 y8 y9
   unfold spec_Add.j6
   repeat' first
   | (with_reducible exact ih0 _ _ _ _ _ _ _ _ _ _ _)
   | (with_reducible exact ih1 _ _ _ _ _ _ _ _ _ _ _)
   | (with_reducible exact ih2 _ _ _ _ _ _ _ _ _ _ _)
   | (with_reducible exact ih3 _ _ _ _ _ _ _ _ _)
   | (with_reducible exact ih4 _ _ _ _ _ _ _ _)
   | (with_reducible exact ih5 _ _ _ _ _ _ _ _ _ _)
   | (with_reducible exact ih6 _ _ _ _ _ _ _ _ _ _ _ _ _)
   | (with_reducible exact ih7 _ _ _ _ _ _ _ _ _ _ _ _ _)
   | (with_reducible exact ih8 _ _ _ _ _ _ _ _ _ _)
   | (with_reducible exact spec_PartsOfNumber.mono _ _)
   | (with_reducible exact spec_RoundTo.mono _ _ _ _ _)
   | (with_reducible exact spec_l03Pow.mono _ _)
   | (with_reducible exact LeO.refl _)
   | (with_reducible exact LeO.none _)
   | (with_reducible refine LeO.ite ?_ ?_)
   | (with_reducible refine LeO.bind ?_ (fun _ => ?_))
   | exact ih0 _ _ _ _ _ _ _ _ _ _ _
   | exact ih1 _ _ _ _ _ _ _ _ _ _ _
   | exact ih2 _ _ _ _ _ _ _ _ _ _ _
   | exact ih3 _ _ _ _ _ _ _ _ _
   | exact ih4 _ _ _ _ _ _ _ _
   | exact ih5 _ _ _ _ _ _ _ _ _ _
   | exact ih6 _ _ _ _ _ _ _ _ _ _ _ _ _
   | exact ih7 _ _ _ _ _ _ _ _ _ _ _ _ _
   | exact ih8 _ _ _ _ _ _ _ _ _ _
   | exact spec_PartsOfNumber.mono _ _
   | exact spec_RoundTo.mono _ _ _ _ _
   | exact spec_l03Pow.mono _ _
   | exact LeO.none _
   | refine LeO.ite ?_ ?_
   | refine LeO.bind ?_ (fun _ => ?_)
  ·intro y0 y1 y2 y3 y4 y5 y6 y7 y8 y9 y10 y11 y12
   unfold spec_Add.l1
   repeat' first
   | (with_reducible exact ih0 _ _ _ _ _ _ _ _ _ _ _)
   | (with_reducible exact ih1 _ _ _ _ _ _ _ _ _ _ _)
   | (with_reducible exact ih2 _ _ _ _ _ _ _ _ _ _ _)
   | (with_reducible exact ih3 _ _ _ _ _ _ _ _ _)
   | (with_reducible exact ih4 _ _ _ _ _ _ _ _)
   | (with_reducible exact ih5 _ _ _ _ _ _ _ _ _ _)
   | (with_reducible exact ih6 _ _ _ _ _ _ _ _ _ _ _ _ _)
   | (with_reducible exact ih7 _ _ _ _ _ _ _ _ _ _ _ _ _)
   | (with_reducible exact ih8 _ _ _ _ _ _ _ _ _ _)
   | (with_reducible exact spec_PartsOfNumber.mono _ _)
   | (with_reducible exact spec_RoundTo.mono _ _ _ _ _)
   | (with_reducible exact spec_l03Pow.mono _ _)
   | (with_reducible exact LeO.refl _)
   | (with_reducible exact LeO.none _)
   | (with_reducible refine LeO.ite ?_ ?_)
   | (with_reducible refine LeO.bind ?_ (fun _ => ?_))
   | exact ih0 _ _ _ _ _ _ _ _ _ _ _
   | exact ih1 _ _ _ _ _ _ _ _ _ _ _
   | exact ih2 _ _ _ _ _ _ _ _ _ _ _
   | exact ih3 _ _ _ _ _ _ _ _ _
   | exact ih4 _ _ _ _ _ _ _ _
   | exact ih5 _ _ _ _ _ _ _ _ _ _
   | exact ih6 _ _ _ _ _ _ _ _ _ _ _ _ _
   | exact ih7 _ _ _ _ _ _ _ _ _ _ _ _ _
   | exact ih8 _ _ _ _ _ _ _ _ _ _
   | exact spec_PartsOfNumber.mono _ _
   | exact spec_RoundTo.mono _ _ _ _ _
   | exact spec_l03Pow.mono _ _
   | exact LeO.none _
   | refine LeO.ite ?_ ?_
   | refine LeO.bind ?_ (fun _ => ?_)
  ·intro y0 y1 y2 y3 y4 y5 y6 y7 y8 y9 y10 y11 y12
   unfold spec_Add.j8
   repeat' first
   | (with_reducible exact ih0 _ _ _ _ _ _ _ _ _ _ _)
   | (with_reducible exact ih1 _ _ _ _ _ _ _ _ _ _ _)
   | (with_reducible exact ih2 _ _ _ _ _ _ _ _ _ _ _)
   | (with_reducible exact ih3 _ _ _ _ _ _ _ _ _)
   | (with_reducible exact ih4 _ _ _ _ _ _ _ _)
   | (with_reducible exact ih5 _ _ _ _ _ _ _ _ _ _)
   | (with_reducible exact ih6 _ _ _ _ _ _ _ _ _ _ _ _ _)
   | (with_reducible exact ih7 _ _ _ _ _ _ _ _ _ _ _ _ _)
   | (with_reducible exact ih8 _ _ _ _ _ _ _ _ _ _)
   | (with_reducible exact spec_PartsOfNumber.mono _ _)
   | (with_reducible exact spec_RoundTo.mono _ _ _ _ _)
   | (with_reducible exact spec_l03Pow.mono _ _)
   | (with_reducible exact LeO.refl _)
   | (with_reducible exact LeO.none _)
   | (with_reducible refine LeO.ite ?_ ?_)
   | (with_reducible refine LeO.bind ?_ (fun _ => ?_))
   | exact ih0 _ _ _ _ _ _ _ _ _ _ _
   | exact ih1 _ _ _ _ _ _ _ _ _ _ _
   | exact ih2 _ _ _ _ _ _ _ _ _ _ _
   | exact ih3 _ _ _ _ _ _ _ _ _
   | exact ih4 _ _ _ _ _ _ _ _
   | exact ih5 _ _ _ _ _ _ _ _ _ _
   | exact ih6 _ _ _ _ _ _ _ _ _ _ _ _ _
   | exact ih7 _ _ _ _ _ _ _ _ _ _ _ _ _
   | exact ih8 _ _ _ _ _ _ _ _ _ _
   | exact spec_PartsOfNumber.mono _ _
   | exact spec_RoundTo.mono _ _ _ _ _
   | exact spec_l03Pow.mono _ _
   | exact LeO.none _
   | refine LeO.ite ?_ ?_
   | refine LeO.bind ?_ (fun _ => ?_)
  ·intro y0 y1 y2 y3 y4 y5 y6 y7 y8 y9
   unfold spec_Add.l0
   repeat' first
   | (with_reducible exact ih0 _ _ _ _ _ _ _ _ _ _ _)
   | (with_reducible exact ih1 _ _ _ _ _ _ _ _ _ _ _)
   | (with_reducible exact ih2 _ _ _ _ _ _ _ _ _ _ _)
   | (with_reducible exact ih3 _ _ _ _ _ _ _ _ _)
   | (with_reducible exact ih4 _ _ _ _ _ _ _ _)
   | (with_reducible exact ih5 _ _ _ _ _ _ _ _ _ _)
   | (with_reducible exact ih6 _ _ _ _ _ _ _ _ _ _ _ _ _)
   | (with_reducible exact ih7 _ _ _ _ _ _ _ _ _ _ _ _ _)
   | (with_reducible exact ih8 _ _ _ _ _ _ _ _ _ _)
   | (with_reducible exact spec_PartsOfNumber.mono _ _)
   | (with_reducible exact spec_RoundTo.mono _ _ _ _ _)
   | (with_reducible exact spec_l03Pow.mono _ _)
   | (with_reducible exact LeO.refl _)
   | (with_reducible exact LeO.none _)
   | (with_reducible refine LeO.ite ?_ ?_)
   | (with_reducible refine LeO.bind ?_ (fun _ => ?_))
   | exact ih0 _ _ _ _ _ _ _ _ _ _ _
   | exact ih1 _ _ _ _ _ _ _ _ _ _ _
   | exact ih2 _ _ _ _ _ _ _ _ _ _ _
   | exact ih3 _ _ _ _ _ _ _ _ _
   | exact ih4 _ _ _ _ _ _ _ _
   | exact ih5 _ _ _ _ _ _ _ _ _ _
   | exact ih6 _ _ _ _ _ _ _ _ _ _ _ _ _
   | exact ih7 _ _ _ _ _ _ _ _ _ _ _ _ _
   | exact ih8 _ _ _ _ _ _ _ _ _ _
   | exact spec_PartsOfNumber.mono _ _
   | exact spec_RoundTo.mono _ _ _ _ _
   | exact spec_l03Pow.mono _ _
   | exact LeO.none _
   | refine LeO.ite ?_ ?_
   | refine LeO.bind ?_ (fun _ => ?_)
theorem spec_Add.mono : ∀ a0 a1 k, LeO (spec_Add.f k a0 a1) (spec_Add.f (k + 1) a0 a1) := by
 intro a0 a1 k
 obtain ⟨ih0, ih1, ih2, ih3, ih4, ih5, ih6, ih7, ih8⟩ := spec_Add.mono_l k
 unfold spec_Add.f
 repeat' first
   | (with_reducible exact ih0 _ _ _ _ _ _ _ _ _ _ _)
   | (with_reducible exact ih1 _ _ _ _ _ _ _ _ _ _ _)
   | (with_reducible exact ih2 _ _ _ _ _ _ _ _ _ _ _)
   | (with_reducible exact ih3 _ _ _ _ _ _ _ _ _)
   | (with_reducible exact ih4 _ _ _ _ _ _ _ _)
   | (with_reducible exact ih5 _ _ _ _ _ _ _ _ _ _)
   | (with_reducible exact ih6 _ _ _ _ _ _ _ _ _ _ _ _ _)
   | (with_reducible exact ih7 _ _ _ _ _ _ _ _ _ _ _ _ _)
   | (with_reducible exact ih8 _ _ _ _ _ _ _ _ _ _)
   | (with_reducible exact spec_PartsOfNumber.mono _ _)
   | (with_reducible exact spec_RoundTo.mono _ _ _ _ _)
   | (with_reducible exact spec_l03Pow.mono _ _)
   | (with_reducible exact LeO.refl _)
   | (with_reducible exact LeO.none _)
   | (with_reducible refine LeO.ite ?_ ?_)
   | (with_reducible refine LeO.bind ?_ (fun _ => ?_))
   | exact ih0 _ _ _ _ _ _ _ _ _ _ _
   | exact ih1 _ _ _ _ _ _ _ _ _ _ _
   | exact ih2 _ _ _ _ _ _ _ _ _ _ _
   | exact ih3 _ _ _ _ _ _ _ _ _
   | exact ih4 _ _ _ _ _ _ _ _
   | exact ih5 _ _ _ _ _ _ _ _ _ _
   | exact ih6 _ _ _ _ _ _ _ _ _ _ _ _ _
   | exact ih7 _ _ _ _ _ _ _ _ _ _ _ _ _
   | exact ih8 _ _ _ _ _ _ _ _ _ _
   | exact spec_PartsOfNumber.mono _ _
   | exact spec_RoundTo.mono _ _ _ _ _
   | exact spec_l03Pow.mono _ _
   | exact LeO.none _
   | refine LeO.ite ?_ ?_
   | refine LeO.bind ?_ (fun _ => ?_)
set_option maxHeartbeats 8000000 in
set_option maxRecDepth 100000 in
theorem spec_Add.calls (k : Nat) (a0 : Int) (a1 : Int) (r : Int) (w : World) (h : spec_Add.f k a0 a1 = some r) :
  Calls Try.prog 62 #[.int .u64 a0, .int .u64 a1] w fun e w' => e = .returned (.int .u64 r) ∧ Below w.heap.size w w' := by
 have hu34 := Try.underlying34
 have HB := Aside0.mk (Below.refl w.heap.size w)
 have H : ((spec_PartsOfNumber.f k a0).bind fun bt216 => ((spec_PartsOfNumber.f k a1).bind fun bt221 => (if bt216.1 = 1 then (spec_Add.j0 k a0 a1 true bt216.1 bt216.2.1 bt216.2.2.1 bt216.2.2.2 bt221.1 bt221.2.1 bt221.2.2.1 bt221.2.2.2) else (spec_Add.j0 k a0 a1 (bt221.1 == 1) bt216.1 bt216.2.1 bt216.2.2.1 bt216.2.2.2 bt221.1 bt221.2.1 bt221.2.2.1 bt221.2.2.2)))) = some r := h
 clear h
 replace H := Option.bind_eq_some_iff.mp H
 obtain ⟨⟨t216, t217, t218, t219⟩, A30, H⟩ := H
 replace H : ((spec_PartsOfNumber.f k a1).bind fun bt221 => (if t216 = 1 then (spec_Add.j0 k a0 a1 true t216 t217 t218 t219 bt221.1 bt221.2.1 bt221.2.2.1 bt221.2.2.2) else (spec_Add.j0 k a0 a1 (bt221.1 == 1) t216 t217 t218 t219 bt221.1 bt221.2.1 bt221.2.2.1 bt221.2.2.2))) = some r := H
 have A3 := Aside0.mk A30
 clear A30
 replace H := Option.bind_eq_some_iff.mp H
 obtain ⟨⟨t221, t222, t223, t224⟩, A40, H⟩ := H
 replace H : (if t216 = 1 then (spec_Add.j0 k a0 a1 true t216 t217 t218 t219 t221 t222 t223 t224) else (spec_Add.j0 k a0 a1 (t221 == 1) t216 t217 t218 t219 t221 t222 t223 t224)) = some r := H
 have A4 := Aside0.mk A40
 clear A40
 have HC5 := Aside0.mk H
 clear H
 go_enter Try.func62, Try.ntmps62
 go_upto_region 3 with (first | ((with_reducible refine gate_callee (f := 16) rfl ?_); refine goesL_ (some 13) rfl rfl Try.func16 (by kernel_rfl) rfl #[.int .u64 a0] rfl (by (try simp only [List.map_toArray, List.map_cons, List.map_nil]); first | done | rfl | (simp only [List.length_drop, List.length_take]; rfl)) ?_; (with_reducible refine (spec_PartsOfNumber.calls k a0 t216 t217 t218 t219 _ A3.out).mono ?_); rintro e w6 ⟨rfl, hb⟩; refine ⟨_, rfl, ?_⟩; have n0_ := Aside0.mk (below_step (by repeat (first | (with_reducible first | exact HB.out | apply below_alloc | apply pw_below_drewN | apply below_drew1) | exact HB.out)) hb); clear HB; have HB := n0_; clear n0_; (try clear hb); (try clear hb2); (try clear hk); (try clear hi)) | ((with_reducible refine gate_dst (N := 5) rfl ?_); refine box_event ?hg (N := 5) ?hd (cs := #[.int .i64 0, .bool false, .int .u64 0, .int .i64 0]) (t := 34) ?hr ?_; (case hd => rfl); (case hg => rfl); (case hr => first | (go_simp; done) | (go_simp; rfl)); intro gb220 hg w7 hbox hb; have n0_ := Aside0.mk (below_step (by repeat (first | (with_reducible first | exact HB.out | apply below_alloc | apply pw_below_drewN | apply below_drew1) | exact HB.out)) hb); have n1_ := Aside0.mk (hbox); have n2_ := Aside0.mk ((by rw [hg]; exact (below_size (by repeat (first | (with_reducible first | exact HB.out | apply below_alloc | apply pw_below_drewN | apply below_drew1) | exact HB.out))) : w.heap.size ≤ gb220)); have n3_ := Aside0.mk ((by rw [hg]; exact (below_size (by repeat (first | (with_reducible first | exact HB.out | apply below_alloc | apply pw_below_drewN | apply below_drew1) | exact HB.out))) : w.heap.size ≤ gb220)); clear HB; have HB := n0_; have BK220 := n1_; have GW220 := n2_; have GE220 := n3_; clear n0_ n1_ n2_ n3_; clear hb hbox hg; have hcz8_0 : w7.cell? ⟨gb220, 0, none⟩ = some (.int .i64 0) := (blk_cell BK220.out 0).trans rfl; have hcz8_1 : w7.cell? ⟨gb220, 1, none⟩ = some (.bool false) := (blk_cell BK220.out 1).trans rfl; have hcz8_2 : w7.cell? ⟨gb220, 2, none⟩ = some (.int .u64 0) := (blk_cell BK220.out 2).trans rfl; have hcz8_3 : w7.cell? ⟨gb220, 3, none⟩ = some (.int .i64 0) := (blk_cell BK220.out 3).trans rfl; have hfz8_0 := blk_frozen BK220.out 0; have hfz8_1 := blk_frozen BK220.out 1; have hfz8_2 := blk_frozen BK220.out 2; have hfz8_3 := blk_frozen BK220.out 3) | ((with_reducible refine gate_callee (f := 16) rfl ?_); refine goesL_ (some 15) rfl rfl Try.func16 (by kernel_rfl) rfl #[.int .u64 a1] rfl (by (try simp only [List.map_toArray, List.map_cons, List.map_nil]); first | done | rfl | (simp only [List.length_drop, List.length_take]; rfl)) ?_; (with_reducible refine (spec_PartsOfNumber.calls k a1 t221 t222 t223 t224 _ A4.out).mono ?_); rintro e w9 ⟨rfl, hb⟩; refine ⟨_, rfl, ?_⟩; have n0_ := Aside0.mk (blk_below (g := gb220) (o := .cells #[.int .i64 t216, .bool t217, .int .u64 t218, .int .i64 t219] 34 (0, 0)) (by (with_reducible repeat (first | refine blk_drewN ?_ _ | refine blk_drew ?_ | refine blk_alloc ?_ _)); refine blk_put (cs := #[.int .i64 t216, .bool t217, .int .u64 t218, .int .i64 0]) ?_ 3 _ rfl; (with_reducible repeat (first | refine blk_drewN ?_ _ | refine blk_drew ?_ | refine blk_alloc ?_ _)); refine blk_put (cs := #[.int .i64 t216, .bool t217, .int .u64 0, .int .i64 0]) ?_ 2 _ rfl; (with_reducible repeat (first | refine blk_drewN ?_ _ | refine blk_drew ?_ | refine blk_alloc ?_ _)); refine blk_put (cs := #[.int .i64 t216, .bool false, .int .u64 0, .int .i64 0]) ?_ 1 _ rfl; (with_reducible repeat (first | refine blk_drewN ?_ _ | refine blk_drew ?_ | refine blk_alloc ?_ _)); refine blk_put (cs := #[.int .i64 0, .bool false, .int .u64 0, .int .i64 0]) ?_ 0 _ rfl; (with_reducible repeat (first | refine blk_drewN ?_ _ | refine blk_drew ?_ | refine blk_alloc ?_ _)); exact BK220.out) hb); have n1_ := Aside0.mk (below_step (by repeat (first | (with_reducible first | exact HB.out | apply below_alloc | apply pw_below_drewN | apply below_drew1 | refine below_set ?_ GE220.out) | exact HB.out)) hb); clear BK220; clear HB; have BK220 := n0_; have HB := n1_; clear n0_ n1_; (try clear hb); (try clear hb2); (try clear hk); (try clear hi)) | ((with_reducible refine gate_dst (N := 6) rfl ?_); refine box_event ?hg (N := 6) ?hd (cs := #[.int .i64 0, .bool false, .int .u64 0, .int .i64 0]) (t := 34) ?hr ?_; (case hd => rfl); (case hg => rfl); (case hr => first | (go_simp; done) | (go_simp; rfl)); intro gb225 hg w10 hbox hb; have n0_ := Aside0.mk (blk_below (g := gb220) (o := .cells #[.int .i64 t216, .bool t217, .int .u64 t218, .int .i64 t219] 34 (0, 0)) (by (with_reducible repeat (first | refine blk_drewN ?_ _ | refine blk_drew ?_ | refine blk_alloc ?_ _)); exact BK220.out) hb); have n1_ := Aside0.mk (below_step (by repeat (first | (with_reducible first | exact HB.out | apply below_alloc | apply pw_below_drewN | apply below_drew1 | refine below_set ?_ GE220.out) | exact HB.out)) hb); have n2_ := Aside0.mk (hbox); have n3_ := Aside0.mk ((by rw [hg]; exact (below_size (by repeat (first | (with_reducible first | exact HB.out | apply below_alloc | apply pw_below_drewN | apply below_drew1 | refine below_set ?_ GE220.out) | exact HB.out))) : w.heap.size ≤ gb225)); have n4_ := Aside0.mk ((by rw [hg]; exact (below_size (by repeat (first | (with_reducible first | exact HB.out | apply below_alloc | apply pw_below_drewN | apply below_drew1 | refine below_set ?_ GE220.out) | exact HB.out))) : w.heap.size ≤ gb225)); have n5_ := Aside0.mk ((by rw [hg]; exact Nat.ne_of_lt (blk_lt (g := gb220) (o := .cells #[.int .i64 t216, .bool t217, .int .u64 t218, .int .i64 t219] 34 (0, 0)) (by (with_reducible repeat (first | refine blk_drewN ?_ _ | refine blk_drew ?_ | refine blk_alloc ?_ _)); exact BK220.out)) : gb220 ≠ gb225)); have n6_ := Aside0.mk ((by rw [hg]; exact Nat.ne_of_gt (blk_lt (g := gb220) (o := .cells #[.int .i64 t216, .bool t217, .int .u64 t218, .int .i64 t219] 34 (0, 0)) (by (with_reducible repeat (first | refine blk_drewN ?_ _ | refine blk_drew ?_ | refine blk_alloc ?_ _)); exact BK220.out)) : gb225 ≠ gb220)); clear BK220; clear HB; have BK220 := n0_; have HB := n1_; have BK225 := n2_; have GW225 := n3_; have GE225 := n4_; have NB220_225 := n5_; have NB225_220 := n6_; clear n0_ n1_ n2_ n3_ n4_ n5_ n6_; clear hb hbox hg; have hnb11 := NB225_220.out; have hnc11 := NB220_225.out; have hcz12_0 : w10.cell? ⟨gb225, 0, none⟩ = some (.int .i64 0) := (blk_cell BK225.out 0).trans rfl; have hcz12_1 : w10.cell? ⟨gb225, 1, none⟩ = some (.bool false) := (blk_cell BK225.out 1).trans rfl; have hcz12_2 : w10.cell? ⟨gb225, 2, none⟩ = some (.int .u64 0) := (blk_cell BK225.out 2).trans rfl; have hcz12_3 : w10.cell? ⟨gb225, 3, none⟩ = some (.int .i64 0) := (blk_cell BK225.out 3).trans rfl; have hfz12_0 := blk_frozen BK225.out 0; have hfz12_1 := blk_frozen BK225.out 1; have hfz12_2 := blk_frozen BK225.out 2; have hfz12_3 := blk_frozen BK225.out 3))
 (try simp only [Act.put, List.setIfInBounds_toArray, List.set_cons_zero, List.set_cons_succ])
 go_cut [16] (fun v16 wc => ∃ (kq : Nat) (x16_4 : Bool), v16 = .bool x16_4 ∧ Aside0 (spec_Add.j0 kq a0 a1 x16_4 t216 t217 t218 t219 t221 t222 t223 t224 = some r) ∧ Aside0 (kq ≤ k) ∧ Aside0 (wc.heap[gb220]? = some (.cells #[.int .i64 t216, .bool t217, .int .u64 t218, .int .i64 t219] 34 (0, 0))) ∧ Aside0 (wc.heap[gb225]? = some (.cells #[.int .i64 t221, .bool t222, .int .u64 t223, .int .i64 t224] 34 (0, 0))) ∧ Aside0 (Below w.heap.size w wc))
 case first =>
  have H := HC5.out
  clear HC5
  by_cases c13 : t216 = 1
  ·rw [if_pos c13] at H
   have c13b0 : (t216 == 1) = true := beq_iff_eq.mpr c13
   have c13b1 : (t216 != 1) = false := bne_eq_false_iff_eq.mpr c13
   clear c13
   (first | rw [c13b0] | (simp only [i64_w, i32_w]; rw [c13b0]) | skip)
   have H' := Aside0.mk H
   clear H
   have hnb14 := NB220_225.out
   have hnc14 := NB225_220.out
   have hcz15_0 : w10.cell? ⟨gb220, 0, none⟩ = some (.int .i64 t216) := (blk_cell BK220.out 0).trans rfl
   have hcz15_1 : w10.cell? ⟨gb220, 1, none⟩ = some (.bool t217) := (blk_cell BK220.out 1).trans rfl
   have hcz15_2 : w10.cell? ⟨gb220, 2, none⟩ = some (.int .u64 t218) := (blk_cell BK220.out 2).trans rfl
   have hcz15_3 : w10.cell? ⟨gb220, 3, none⟩ = some (.int .i64 t219) := (blk_cell BK220.out 3).trans rfl
   have hfz15_0 := blk_frozen BK220.out 0
   have hfz15_1 := blk_frozen BK220.out 1
   have hfz15_2 := blk_frozen BK220.out 2
   have hfz15_3 := blk_frozen BK220.out 3
   go_wp2
   go_meet
   case rel => exact ⟨_, (true), (by first | rfl | (simp; done) | (simp [*]; done)), H', ⟨by first | omega | exact Nat.le_refl _⟩, ⟨by (with_reducible repeat (first | refine blk_drewN ?_ _ | refine blk_drew ?_ | refine blk_alloc ?_ _)); refine blk_far ?_ NB220_225.out _; (with_reducible repeat (first | refine blk_drewN ?_ _ | refine blk_drew ?_ | refine blk_alloc ?_ _)); refine blk_far ?_ NB220_225.out _; (with_reducible repeat (first | refine blk_drewN ?_ _ | refine blk_drew ?_ | refine blk_alloc ?_ _)); refine blk_far ?_ NB220_225.out _; (with_reducible repeat (first | refine blk_drewN ?_ _ | refine blk_drew ?_ | refine blk_alloc ?_ _)); refine blk_far ?_ NB220_225.out _; (with_reducible repeat (first | refine blk_drewN ?_ _ | refine blk_drew ?_ | refine blk_alloc ?_ _)); exact BK220.out⟩, ⟨by (with_reducible repeat (first | refine blk_drewN ?_ _ | refine blk_drew ?_ | refine blk_alloc ?_ _)); refine blk_put (cs := #[.int .i64 t221, .bool t222, .int .u64 t223, .int .i64 0]) ?_ 3 _ rfl; (with_reducible repeat (first | refine blk_drewN ?_ _ | refine blk_drew ?_ | refine blk_alloc ?_ _)); refine blk_put (cs := #[.int .i64 t221, .bool t222, .int .u64 0, .int .i64 0]) ?_ 2 _ rfl; (with_reducible repeat (first | refine blk_drewN ?_ _ | refine blk_drew ?_ | refine blk_alloc ?_ _)); refine blk_put (cs := #[.int .i64 t221, .bool false, .int .u64 0, .int .i64 0]) ?_ 1 _ rfl; (with_reducible repeat (first | refine blk_drewN ?_ _ | refine blk_drew ?_ | refine blk_alloc ?_ _)); refine blk_put (cs := #[.int .i64 0, .bool false, .int .u64 0, .int .i64 0]) ?_ 0 _ rfl; (with_reducible repeat (first | refine blk_drewN ?_ _ | refine blk_drew ?_ | refine blk_alloc ?_ _)); exact BK225.out⟩, ⟨by repeat (first | (with_reducible first | exact HB.out | apply below_alloc | apply pw_below_drewN | apply below_drew1 | refine below_set ?_ GE220.out | refine below_set ?_ GE225.out) | exact HB.out)⟩⟩
  ·rw [if_neg c13] at H
   have c13b0 : (t216 == 1) = false := beq_eq_false_iff_ne.mpr c13
   have c13b1 : (t216 != 1) = true := bne_iff_ne.mpr c13
   (first | rw [c13b0] | (simp only [i64_w, i32_w]; rw [c13b0]) | skip)
   have H' := Aside0.mk H
   clear H
   have hnb16 := NB220_225.out
   have hnc16 := NB225_220.out
   have hcz17_0 : w10.cell? ⟨gb220, 0, none⟩ = some (.int .i64 t216) := (blk_cell BK220.out 0).trans rfl
   have hcz17_1 : w10.cell? ⟨gb220, 1, none⟩ = some (.bool t217) := (blk_cell BK220.out 1).trans rfl
   have hcz17_2 : w10.cell? ⟨gb220, 2, none⟩ = some (.int .u64 t218) := (blk_cell BK220.out 2).trans rfl
   have hcz17_3 : w10.cell? ⟨gb220, 3, none⟩ = some (.int .i64 t219) := (blk_cell BK220.out 3).trans rfl
   have hfz17_0 := blk_frozen BK220.out 0
   have hfz17_1 := blk_frozen BK220.out 1
   have hfz17_2 := blk_frozen BK220.out 2
   have hfz17_3 := blk_frozen BK220.out 3
   have hcz18_0 : w10.cell? ⟨gb225, 0, none⟩ = some (.int .i64 0) := (blk_cell BK225.out 0).trans rfl
   have hcz18_1 : w10.cell? ⟨gb225, 1, none⟩ = some (.bool false) := (blk_cell BK225.out 1).trans rfl
   have hcz18_2 : w10.cell? ⟨gb225, 2, none⟩ = some (.int .u64 0) := (blk_cell BK225.out 2).trans rfl
   have hcz18_3 : w10.cell? ⟨gb225, 3, none⟩ = some (.int .i64 0) := (blk_cell BK225.out 3).trans rfl
   have hfz18_0 := blk_frozen BK225.out 0
   have hfz18_1 := blk_frozen BK225.out 1
   have hfz18_2 := blk_frozen BK225.out 2
   have hfz18_3 := blk_frozen BK225.out 3
   go_wp2
   go_meet
   case rel => exact ⟨_, ((t221 == 1)), (by first | rfl | (simp; done) | (simp [*]; done)), H', ⟨by first | omega | exact Nat.le_refl _⟩, ⟨by (with_reducible repeat (first | refine blk_drewN ?_ _ | refine blk_drew ?_ | refine blk_alloc ?_ _)); refine blk_far ?_ NB220_225.out _; (with_reducible repeat (first | refine blk_drewN ?_ _ | refine blk_drew ?_ | refine blk_alloc ?_ _)); refine blk_far ?_ NB220_225.out _; (with_reducible repeat (first | refine blk_drewN ?_ _ | refine blk_drew ?_ | refine blk_alloc ?_ _)); refine blk_far ?_ NB220_225.out _; (with_reducible repeat (first | refine blk_drewN ?_ _ | refine blk_drew ?_ | refine blk_alloc ?_ _)); refine blk_far ?_ NB220_225.out _; (with_reducible repeat (first | refine blk_drewN ?_ _ | refine blk_drew ?_ | refine blk_alloc ?_ _)); exact BK220.out⟩, ⟨by (with_reducible repeat (first | refine blk_drewN ?_ _ | refine blk_drew ?_ | refine blk_alloc ?_ _)); refine blk_put (cs := #[.int .i64 t221, .bool t222, .int .u64 t223, .int .i64 0]) ?_ 3 _ rfl; (with_reducible repeat (first | refine blk_drewN ?_ _ | refine blk_drew ?_ | refine blk_alloc ?_ _)); refine blk_put (cs := #[.int .i64 t221, .bool t222, .int .u64 0, .int .i64 0]) ?_ 2 _ rfl; (with_reducible repeat (first | refine blk_drewN ?_ _ | refine blk_drew ?_ | refine blk_alloc ?_ _)); refine blk_put (cs := #[.int .i64 t221, .bool false, .int .u64 0, .int .i64 0]) ?_ 1 _ rfl; (with_reducible repeat (first | refine blk_drewN ?_ _ | refine blk_drew ?_ | refine blk_alloc ?_ _)); refine blk_put (cs := #[.int .i64 0, .bool false, .int .u64 0, .int .i64 0]) ?_ 0 _ rfl; (with_reducible repeat (first | refine blk_drewN ?_ _ | refine blk_drew ?_ | refine blk_alloc ?_ _)); exact BK225.out⟩, ⟨by repeat (first | (with_reducible first | exact HB.out | apply below_alloc | apply pw_below_drewN | apply below_drew1 | refine below_set ?_ GE220.out | refine below_set ?_ GE225.out) | exact HB.out)⟩⟩
 case rest =>
  clear HC5
  try clear c1
  try clear p2
  try clear c6
  try clear c11
  try clear c13
  try clear c13b0
  try clear c13b1
  try clear c14
  try clear c16
  try clear hcz12_0
  try clear hcz12_1
  try clear hcz12_2
  try clear hcz12_3
  try clear hcz15_0
  try clear hcz15_1
  try clear hcz15_2
  try clear hcz15_3
  try clear hcz17_0
  try clear hcz17_1
  try clear hcz17_2
  try clear hcz17_3
  try clear hcz18_0
  try clear hcz18_1
  try clear hcz18_2
  try clear hcz18_3
  try clear hcz8_0
  try clear hcz8_1
  try clear hcz8_2
  try clear hcz8_3
  try clear hfz12_0
  try clear hfz12_1
  try clear hfz12_2
  try clear hfz12_3
  try clear hfz15_0
  try clear hfz15_1
  try clear hfz15_2
  try clear hfz15_3
  try clear hfz17_0
  try clear hfz17_1
  try clear hfz17_2
  try clear hfz17_3
  try clear hfz18_0
  try clear hfz18_1
  try clear hfz18_2
  try clear hfz18_3
  try clear hfz8_0
  try clear hfz8_1
  try clear hfz8_2
  try clear hfz8_3
  obtain ⟨kq, x16_4, rfl, HA, HJ4, BK220, BK225, HB⟩ := hcut
  cases kq with
  | zero => exact absurd HA.out (by simp [spec_Add.j0])
  | succ kj4 =>
   have H := HA.out
   clear HA
   simp only [spec_Add.j0] at H
   by_cases c19 : x16_4 = true
   ·subst c19
    have H1 : (some 9221120237041090560) = some r := by rw [if_pos rfl] at H; exact H
    clear H
    have H := H1
    clear H1
    obtain rfl := Option.some.inj H
    go_wp2
    go_ret
    exact ⟨by first | rfl | (simp; done) | (simp [errW_none, errW_some] <;> rfl) | (simp [*, errW_none, errW_some] <;> rfl) | (simp [bne, List.isEmpty_iff]; done) | (rw [Bool.eq_iff_iff]; simp), by repeat (first | (with_reducible first | exact HB.out | apply below_alloc | apply pw_below_drewN | apply below_drew1 | refine below_set ?_ GE220.out | refine below_set ?_ GE225.out) | exact HB.out)⟩
   ·replace c19 := Bool.eq_false_iff.mpr c19
    subst c19
    have H1 : (if t216 = 2 then (spec_Add.j1 kj4 a0 a1 (t221 == 2) t216 t217 t218 t219 t221 t222 t223 t224) else (spec_Add.j1 kj4 a0 a1 false t216 t217 t218 t219 t221 t222 t223 t224)) = some r := by rw [if_neg (show ¬ (false = true) by decide)] at H; exact H
    clear H
    have H := H1
    clear H1
    have HC20 := Aside0.mk H
    clear H
    go_upto_region 5 with (fail)
    go_cut [25] (fun v25 wc => ∃ (kq : Nat) (x25_19 : Bool), v25 = .bool x25_19 ∧ Aside0 (spec_Add.j1 kq a0 a1 x25_19 t216 t217 t218 t219 t221 t222 t223 t224 = some r) ∧ Aside0 (kq ≤ kj4) ∧ Aside0 (wc.heap[gb220]? = some (.cells #[.int .i64 t216, .bool t217, .int .u64 t218, .int .i64 t219] 34 (0, 0))) ∧ Aside0 (wc.heap[gb225]? = some (.cells #[.int .i64 t221, .bool t222, .int .u64 t223, .int .i64 t224] 34 (0, 0))) ∧ Aside0 (Below w.heap.size w wc))
    case first =>
     have H := HC20.out
     clear HC20
     by_cases c21 : t216 = 2
     ·rw [if_pos c21] at H
      have c21b0 : (t216 == 2) = true := beq_iff_eq.mpr c21
      have c21b1 : (t216 != 2) = false := bne_eq_false_iff_eq.mpr c21
      clear c21
      (first | rw [c21b0] | (simp only [i64_w, i32_w]; rw [c21b0]) | skip)
      have H' := Aside0.mk H
      clear H
      have hnb22 := NB220_225.out
      have hnc22 := NB225_220.out
      have hcz23_0 : wc.cell? ⟨gb220, 0, none⟩ = some (.int .i64 t216) := (blk_cell BK220.out 0).trans rfl
      have hcz23_1 : wc.cell? ⟨gb220, 1, none⟩ = some (.bool t217) := (blk_cell BK220.out 1).trans rfl
      have hcz23_2 : wc.cell? ⟨gb220, 2, none⟩ = some (.int .u64 t218) := (blk_cell BK220.out 2).trans rfl
      have hcz23_3 : wc.cell? ⟨gb220, 3, none⟩ = some (.int .i64 t219) := (blk_cell BK220.out 3).trans rfl
      have hfz23_0 := blk_frozen BK220.out 0
      have hfz23_1 := blk_frozen BK220.out 1
      have hfz23_2 := blk_frozen BK220.out 2
      have hfz23_3 := blk_frozen BK220.out 3
      have hcz24_0 : wc.cell? ⟨gb225, 0, none⟩ = some (.int .i64 t221) := (blk_cell BK225.out 0).trans rfl
      have hcz24_1 : wc.cell? ⟨gb225, 1, none⟩ = some (.bool t222) := (blk_cell BK225.out 1).trans rfl
      have hcz24_2 : wc.cell? ⟨gb225, 2, none⟩ = some (.int .u64 t223) := (blk_cell BK225.out 2).trans rfl
      have hcz24_3 : wc.cell? ⟨gb225, 3, none⟩ = some (.int .i64 t224) := (blk_cell BK225.out 3).trans rfl
      have hfz24_0 := blk_frozen BK225.out 0
      have hfz24_1 := blk_frozen BK225.out 1
      have hfz24_2 := blk_frozen BK225.out 2
      have hfz24_3 := blk_frozen BK225.out 3
      go_wp2
      go_meet
      case rel => exact ⟨_, ((t221 == 2)), (by first | rfl | (simp; done) | (simp [*]; done)), H', ⟨by have := HJ4.out; first | omega | exact Nat.le_refl _⟩, ⟨by (with_reducible repeat (first | refine blk_drewN ?_ _ | refine blk_drew ?_ | refine blk_alloc ?_ _)); exact BK220.out⟩, ⟨by (with_reducible repeat (first | refine blk_drewN ?_ _ | refine blk_drew ?_ | refine blk_alloc ?_ _)); exact BK225.out⟩, ⟨by repeat (first | (with_reducible first | exact HB.out | apply below_alloc | apply pw_below_drewN | apply below_drew1 | refine below_set ?_ GE220.out | refine below_set ?_ GE225.out) | exact HB.out)⟩⟩
     ·rw [if_neg c21] at H
      have c21b0 : (t216 == 2) = false := beq_eq_false_iff_ne.mpr c21
      have c21b1 : (t216 != 2) = true := bne_iff_ne.mpr c21
      (first | rw [c21b0] | (simp only [i64_w, i32_w]; rw [c21b0]) | skip)
      have H' := Aside0.mk H
      clear H
      have hnb25 := NB220_225.out
      have hnc25 := NB225_220.out
      have hcz26_0 : wc.cell? ⟨gb220, 0, none⟩ = some (.int .i64 t216) := (blk_cell BK220.out 0).trans rfl
      have hcz26_1 : wc.cell? ⟨gb220, 1, none⟩ = some (.bool t217) := (blk_cell BK220.out 1).trans rfl
      have hcz26_2 : wc.cell? ⟨gb220, 2, none⟩ = some (.int .u64 t218) := (blk_cell BK220.out 2).trans rfl
      have hcz26_3 : wc.cell? ⟨gb220, 3, none⟩ = some (.int .i64 t219) := (blk_cell BK220.out 3).trans rfl
      have hfz26_0 := blk_frozen BK220.out 0
      have hfz26_1 := blk_frozen BK220.out 1
      have hfz26_2 := blk_frozen BK220.out 2
      have hfz26_3 := blk_frozen BK220.out 3
      go_wp2
      go_meet
      case rel => exact ⟨_, (false), (by first | rfl | (simp; done) | (simp [*]; done)), H', ⟨by have := HJ4.out; first | omega | exact Nat.le_refl _⟩, ⟨by (with_reducible repeat (first | refine blk_drewN ?_ _ | refine blk_drew ?_ | refine blk_alloc ?_ _)); exact BK220.out⟩, ⟨by (with_reducible repeat (first | refine blk_drewN ?_ _ | refine blk_drew ?_ | refine blk_alloc ?_ _)); exact BK225.out⟩, ⟨by repeat (first | (with_reducible first | exact HB.out | apply below_alloc | apply pw_below_drewN | apply below_drew1 | refine below_set ?_ GE220.out | refine below_set ?_ GE225.out) | exact HB.out)⟩⟩
    case rest =>
     clear HC20
     try clear c1
     try clear c2
     try clear p2
     try clear c6
     try clear c11
     try clear c13
     try clear c13b0
     try clear c13b1
     try clear c14
     try clear c16
     try clear c19
     try clear c21
     try clear c21b0
     try clear c21b1
     try clear c22
     try clear c25
     try clear hcz12_0
     try clear hcz12_1
     try clear hcz12_2
     try clear hcz12_3
     try clear hcz15_0
     try clear hcz15_1
     try clear hcz15_2
     try clear hcz15_3
     try clear hcz17_0
     try clear hcz17_1
     try clear hcz17_2
     try clear hcz17_3
     try clear hcz18_0
     try clear hcz18_1
     try clear hcz18_2
     try clear hcz18_3
     try clear hcz23_0
     try clear hcz23_1
     try clear hcz23_2
     try clear hcz23_3
     try clear hcz24_0
     try clear hcz24_1
     try clear hcz24_2
     try clear hcz24_3
     try clear hcz26_0
     try clear hcz26_1
     try clear hcz26_2
     try clear hcz26_3
     try clear hcz8_0
     try clear hcz8_1
     try clear hcz8_2
     try clear hcz8_3
     try clear hfz12_0
     try clear hfz12_1
     try clear hfz12_2
     try clear hfz12_3
     try clear hfz15_0
     try clear hfz15_1
     try clear hfz15_2
     try clear hfz15_3
     try clear hfz17_0
     try clear hfz17_1
     try clear hfz17_2
     try clear hfz17_3
     try clear hfz18_0
     try clear hfz18_1
     try clear hfz18_2
     try clear hfz18_3
     try clear hfz23_0
     try clear hfz23_1
     try clear hfz23_2
     try clear hfz23_3
     try clear hfz24_0
     try clear hfz24_1
     try clear hfz24_2
     try clear hfz24_3
     try clear hfz26_0
     try clear hfz26_1
     try clear hfz26_2
     try clear hfz26_3
     try clear hfz8_0
     try clear hfz8_1
     try clear hfz8_2
     try clear hfz8_3
     try clear p2
     obtain ⟨kq, x25_19, rfl, HA, HJ19, BK220, BK225, HB⟩ := hcut
     cases kq with
     | zero => exact absurd HA.out (by simp [spec_Add.j1])
     | succ kj19 =>
      have H := HA.out
      clear HA
      simp only [spec_Add.j1] at H
      by_cases c27 : x25_19 = true
      ·subst c27
       have H1 : (if (t217 != t222) = true then (some 9221120237041090560) else (some a0)) = some r := by rw [if_pos rfl] at H; exact H
       clear H
       have H := H1
       clear H1
       by_cases c28 : (t217 != t222) = true
       ·rw [if_pos c28] at H
        have c28b0 : (t217 != t222) = true := c28
        (try (have c28b1 : decide (t217 = t222) = false := by simpa using c28))
        (try (have c28b2 : (t217 == t222) = false := by simpa using c28))
        (try (have c28b3 : ¬ (t217 = t222) := by simpa using c28))
        clear c28
        obtain rfl := Option.some.inj H
        have hnb29 := NB220_225.out
        have hnc29 := NB225_220.out
        have hcz30_0 : wc.cell? ⟨gb220, 0, none⟩ = some (.int .i64 t216) := (blk_cell BK220.out 0).trans rfl
        have hcz30_1 : wc.cell? ⟨gb220, 1, none⟩ = some (.bool t217) := (blk_cell BK220.out 1).trans rfl
        have hcz30_2 : wc.cell? ⟨gb220, 2, none⟩ = some (.int .u64 t218) := (blk_cell BK220.out 2).trans rfl
        have hcz30_3 : wc.cell? ⟨gb220, 3, none⟩ = some (.int .i64 t219) := (blk_cell BK220.out 3).trans rfl
        have hfz30_0 := blk_frozen BK220.out 0
        have hfz30_1 := blk_frozen BK220.out 1
        have hfz30_2 := blk_frozen BK220.out 2
        have hfz30_3 := blk_frozen BK220.out 3
        have hcz31_0 : wc.cell? ⟨gb225, 0, none⟩ = some (.int .i64 t221) := (blk_cell BK225.out 0).trans rfl
        have hcz31_1 : wc.cell? ⟨gb225, 1, none⟩ = some (.bool t222) := (blk_cell BK225.out 1).trans rfl
        have hcz31_2 : wc.cell? ⟨gb225, 2, none⟩ = some (.int .u64 t223) := (blk_cell BK225.out 2).trans rfl
        have hcz31_3 : wc.cell? ⟨gb225, 3, none⟩ = some (.int .i64 t224) := (blk_cell BK225.out 3).trans rfl
        have hfz31_0 := blk_frozen BK225.out 0
        have hfz31_1 := blk_frozen BK225.out 1
        have hfz31_2 := blk_frozen BK225.out 2
        have hfz31_3 := blk_frozen BK225.out 3
        go_wp2
        go_ret
        exact ⟨by first | rfl | (simp; done) | (simp [errW_none, errW_some] <;> rfl) | (simp [*, errW_none, errW_some] <;> rfl) | (simp [bne, List.isEmpty_iff]; done) | (rw [Bool.eq_iff_iff]; simp), by repeat (first | (with_reducible first | exact HB.out | apply below_alloc | apply pw_below_drewN | apply below_drew1 | refine below_set ?_ GE220.out | refine below_set ?_ GE225.out) | exact HB.out)⟩
       ·rw [if_neg c28] at H
        have c28b0 : (t217 != t222) = false := by simpa using c28
        (try (have c28b1 : decide (t217 = t222) = true := by simpa using c28))
        (try (have c28b2 : (t217 == t222) = true := by simpa using c28))
        clear c28
        obtain rfl := Option.some.inj H
        have hnb32 := NB220_225.out
        have hnc32 := NB225_220.out
        have hcz33_0 : wc.cell? ⟨gb220, 0, none⟩ = some (.int .i64 t216) := (blk_cell BK220.out 0).trans rfl
        have hcz33_1 : wc.cell? ⟨gb220, 1, none⟩ = some (.bool t217) := (blk_cell BK220.out 1).trans rfl
        have hcz33_2 : wc.cell? ⟨gb220, 2, none⟩ = some (.int .u64 t218) := (blk_cell BK220.out 2).trans rfl
        have hcz33_3 : wc.cell? ⟨gb220, 3, none⟩ = some (.int .i64 t219) := (blk_cell BK220.out 3).trans rfl
        have hfz33_0 := blk_frozen BK220.out 0
        have hfz33_1 := blk_frozen BK220.out 1
        have hfz33_2 := blk_frozen BK220.out 2
        have hfz33_3 := blk_frozen BK220.out 3
        have hcz34_0 : wc.cell? ⟨gb225, 0, none⟩ = some (.int .i64 t221) := (blk_cell BK225.out 0).trans rfl
        have hcz34_1 : wc.cell? ⟨gb225, 1, none⟩ = some (.bool t222) := (blk_cell BK225.out 1).trans rfl
        have hcz34_2 : wc.cell? ⟨gb225, 2, none⟩ = some (.int .u64 t223) := (blk_cell BK225.out 2).trans rfl
        have hcz34_3 : wc.cell? ⟨gb225, 3, none⟩ = some (.int .i64 t224) := (blk_cell BK225.out 3).trans rfl
        have hfz34_0 := blk_frozen BK225.out 0
        have hfz34_1 := blk_frozen BK225.out 1
        have hfz34_2 := blk_frozen BK225.out 2
        have hfz34_3 := blk_frozen BK225.out 3
        go_wp2
        go_ret
        exact ⟨by first | rfl | (simp; done) | (simp [errW_none, errW_some] <;> rfl) | (simp [*, errW_none, errW_some] <;> rfl) | (simp [bne, List.isEmpty_iff]; done) | (rw [Bool.eq_iff_iff]; simp), by repeat (first | (with_reducible first | exact HB.out | apply below_alloc | apply pw_below_drewN | apply below_drew1 | refine below_set ?_ GE220.out | refine below_set ?_ GE225.out) | exact HB.out)⟩
      ·replace c27 := Bool.eq_false_iff.mpr c27
       subst c27
       have H1 : (if t216 = 2 then (some a0) else (if t221 = 2 then (some a1) else (if t216 = 3 then (spec_Add.j2 kj19 a0 a1 (t221 == 3) t216 t217 t218 t219 t221 t222 t223 t224) else (spec_Add.j2 kj19 a0 a1 false t216 t217 t218 t219 t221 t222 t223 t224)))) = some r := by rw [if_neg (show ¬ (false = true) by decide)] at H; exact H
       clear H
       have H := H1
       clear H1
       by_cases c35 : t216 = 2
       ·rw [if_pos c35] at H
        have c35b0 : (t216 == 2) = true := beq_iff_eq.mpr c35
        have c35b1 : (t216 != 2) = false := bne_eq_false_iff_eq.mpr c35
        clear c35
        obtain rfl := Option.some.inj H
        have hnb36 := NB220_225.out
        have hnc36 := NB225_220.out
        have hcz37_0 : wc.cell? ⟨gb220, 0, none⟩ = some (.int .i64 t216) := (blk_cell BK220.out 0).trans rfl
        have hcz37_1 : wc.cell? ⟨gb220, 1, none⟩ = some (.bool t217) := (blk_cell BK220.out 1).trans rfl
        have hcz37_2 : wc.cell? ⟨gb220, 2, none⟩ = some (.int .u64 t218) := (blk_cell BK220.out 2).trans rfl
        have hcz37_3 : wc.cell? ⟨gb220, 3, none⟩ = some (.int .i64 t219) := (blk_cell BK220.out 3).trans rfl
        have hfz37_0 := blk_frozen BK220.out 0
        have hfz37_1 := blk_frozen BK220.out 1
        have hfz37_2 := blk_frozen BK220.out 2
        have hfz37_3 := blk_frozen BK220.out 3
        go_wp2
        go_ret
        exact ⟨by first | rfl | (simp; done) | (simp [errW_none, errW_some] <;> rfl) | (simp [*, errW_none, errW_some] <;> rfl) | (simp [bne, List.isEmpty_iff]; done) | (rw [Bool.eq_iff_iff]; simp), by repeat (first | (with_reducible first | exact HB.out | apply below_alloc | apply pw_below_drewN | apply below_drew1 | refine below_set ?_ GE220.out | refine below_set ?_ GE225.out) | exact HB.out)⟩
       ·rw [if_neg c35] at H
        have c35b0 : (t216 == 2) = false := beq_eq_false_iff_ne.mpr c35
        have c35b1 : (t216 != 2) = true := bne_iff_ne.mpr c35
        by_cases c38 : t221 = 2
        ·rw [if_pos c38] at H
         have c38b0 : (t221 == 2) = true := beq_iff_eq.mpr c38
         have c38b1 : (t221 != 2) = false := bne_eq_false_iff_eq.mpr c38
         clear c38
         obtain rfl := Option.some.inj H
         have hnb39 := NB220_225.out
         have hnc39 := NB225_220.out
         have hcz40_0 : wc.cell? ⟨gb220, 0, none⟩ = some (.int .i64 t216) := (blk_cell BK220.out 0).trans rfl
         have hcz40_1 : wc.cell? ⟨gb220, 1, none⟩ = some (.bool t217) := (blk_cell BK220.out 1).trans rfl
         have hcz40_2 : wc.cell? ⟨gb220, 2, none⟩ = some (.int .u64 t218) := (blk_cell BK220.out 2).trans rfl
         have hcz40_3 : wc.cell? ⟨gb220, 3, none⟩ = some (.int .i64 t219) := (blk_cell BK220.out 3).trans rfl
         have hfz40_0 := blk_frozen BK220.out 0
         have hfz40_1 := blk_frozen BK220.out 1
         have hfz40_2 := blk_frozen BK220.out 2
         have hfz40_3 := blk_frozen BK220.out 3
         have hcz41_0 : wc.cell? ⟨gb225, 0, none⟩ = some (.int .i64 t221) := (blk_cell BK225.out 0).trans rfl
         have hcz41_1 : wc.cell? ⟨gb225, 1, none⟩ = some (.bool t222) := (blk_cell BK225.out 1).trans rfl
         have hcz41_2 : wc.cell? ⟨gb225, 2, none⟩ = some (.int .u64 t223) := (blk_cell BK225.out 2).trans rfl
         have hcz41_3 : wc.cell? ⟨gb225, 3, none⟩ = some (.int .i64 t224) := (blk_cell BK225.out 3).trans rfl
         have hfz41_0 := blk_frozen BK225.out 0
         have hfz41_1 := blk_frozen BK225.out 1
         have hfz41_2 := blk_frozen BK225.out 2
         have hfz41_3 := blk_frozen BK225.out 3
         go_wp2
         go_ret
         exact ⟨by first | rfl | (simp; done) | (simp [errW_none, errW_some] <;> rfl) | (simp [*, errW_none, errW_some] <;> rfl) | (simp [bne, List.isEmpty_iff]; done) | (rw [Bool.eq_iff_iff]; simp), by repeat (first | (with_reducible first | exact HB.out | apply below_alloc | apply pw_below_drewN | apply below_drew1 | refine below_set ?_ GE220.out | refine below_set ?_ GE225.out) | exact HB.out)⟩
        ·rw [if_neg c38] at H
         have c38b0 : (t221 == 2) = false := beq_eq_false_iff_ne.mpr c38
         have c38b1 : (t221 != 2) = true := bne_iff_ne.mpr c38
         have HC42 := Aside0.mk H
         clear H
         have hnb43 := NB220_225.out
         have hnc43 := NB225_220.out
         have hcz44_0 : wc.cell? ⟨gb220, 0, none⟩ = some (.int .i64 t216) := (blk_cell BK220.out 0).trans rfl
         have hcz44_1 : wc.cell? ⟨gb220, 1, none⟩ = some (.bool t217) := (blk_cell BK220.out 1).trans rfl
         have hcz44_2 : wc.cell? ⟨gb220, 2, none⟩ = some (.int .u64 t218) := (blk_cell BK220.out 2).trans rfl
         have hcz44_3 : wc.cell? ⟨gb220, 3, none⟩ = some (.int .i64 t219) := (blk_cell BK220.out 3).trans rfl
         have hfz44_0 := blk_frozen BK220.out 0
         have hfz44_1 := blk_frozen BK220.out 1
         have hfz44_2 := blk_frozen BK220.out 2
         have hfz44_3 := blk_frozen BK220.out 3
         have hcz45_0 : wc.cell? ⟨gb225, 0, none⟩ = some (.int .i64 t221) := (blk_cell BK225.out 0).trans rfl
         have hcz45_1 : wc.cell? ⟨gb225, 1, none⟩ = some (.bool t222) := (blk_cell BK225.out 1).trans rfl
         have hcz45_2 : wc.cell? ⟨gb225, 2, none⟩ = some (.int .u64 t223) := (blk_cell BK225.out 2).trans rfl
         have hcz45_3 : wc.cell? ⟨gb225, 3, none⟩ = some (.int .i64 t224) := (blk_cell BK225.out 3).trans rfl
         have hfz45_0 := blk_frozen BK225.out 0
         have hfz45_1 := blk_frozen BK225.out 1
         have hfz45_2 := blk_frozen BK225.out 2
         have hfz45_3 := blk_frozen BK225.out 3
         go_upto_region 13 with (fail)
         go_cut [50] (fun v50 wc => ∃ (kq : Nat) (x50_41 : Bool), v50 = .bool x50_41 ∧ Aside0 (spec_Add.j2 kq a0 a1 x50_41 t216 t217 t218 t219 t221 t222 t223 t224 = some r) ∧ Aside0 (kq ≤ kj19) ∧ Aside0 (wc.heap[gb220]? = some (.cells #[.int .i64 t216, .bool t217, .int .u64 t218, .int .i64 t219] 34 (0, 0))) ∧ Aside0 (wc.heap[gb225]? = some (.cells #[.int .i64 t221, .bool t222, .int .u64 t223, .int .i64 t224] 34 (0, 0))) ∧ Aside0 (Below w.heap.size w wc))
         case first =>
          have H := HC42.out
          clear HC42
          by_cases c46 : t216 = 3
          ·rw [if_pos c46] at H
           have c46b0 : (t216 == 3) = true := beq_iff_eq.mpr c46
           have c46b1 : (t216 != 3) = false := bne_eq_false_iff_eq.mpr c46
           clear c46
           (first | rw [c46b0] | (simp only [i64_w, i32_w]; rw [c46b0]) | skip)
           have H' := Aside0.mk H
           clear H
           have hnb47 := NB220_225.out
           have hnc47 := NB225_220.out
           have hcz48_0 : wc.cell? ⟨gb220, 0, none⟩ = some (.int .i64 t216) := (blk_cell BK220.out 0).trans rfl
           have hcz48_1 : wc.cell? ⟨gb220, 1, none⟩ = some (.bool t217) := (blk_cell BK220.out 1).trans rfl
           have hcz48_2 : wc.cell? ⟨gb220, 2, none⟩ = some (.int .u64 t218) := (blk_cell BK220.out 2).trans rfl
           have hcz48_3 : wc.cell? ⟨gb220, 3, none⟩ = some (.int .i64 t219) := (blk_cell BK220.out 3).trans rfl
           have hfz48_0 := blk_frozen BK220.out 0
           have hfz48_1 := blk_frozen BK220.out 1
           have hfz48_2 := blk_frozen BK220.out 2
           have hfz48_3 := blk_frozen BK220.out 3
           have hcz49_0 : wc.cell? ⟨gb225, 0, none⟩ = some (.int .i64 t221) := (blk_cell BK225.out 0).trans rfl
           have hcz49_1 : wc.cell? ⟨gb225, 1, none⟩ = some (.bool t222) := (blk_cell BK225.out 1).trans rfl
           have hcz49_2 : wc.cell? ⟨gb225, 2, none⟩ = some (.int .u64 t223) := (blk_cell BK225.out 2).trans rfl
           have hcz49_3 : wc.cell? ⟨gb225, 3, none⟩ = some (.int .i64 t224) := (blk_cell BK225.out 3).trans rfl
           have hfz49_0 := blk_frozen BK225.out 0
           have hfz49_1 := blk_frozen BK225.out 1
           have hfz49_2 := blk_frozen BK225.out 2
           have hfz49_3 := blk_frozen BK225.out 3
           go_wp2
           go_meet
           case rel => exact ⟨_, ((t221 == 3)), (by first | rfl | (simp; done) | (simp [*]; done)), H', ⟨by have := HJ4.out; have := HJ19.out; first | omega | exact Nat.le_refl _⟩, ⟨by (with_reducible repeat (first | refine blk_drewN ?_ _ | refine blk_drew ?_ | refine blk_alloc ?_ _)); exact BK220.out⟩, ⟨by (with_reducible repeat (first | refine blk_drewN ?_ _ | refine blk_drew ?_ | refine blk_alloc ?_ _)); exact BK225.out⟩, ⟨by repeat (first | (with_reducible first | exact HB.out | apply below_alloc | apply pw_below_drewN | apply below_drew1 | refine below_set ?_ GE220.out | refine below_set ?_ GE225.out) | exact HB.out)⟩⟩
          ·rw [if_neg c46] at H
           have c46b0 : (t216 == 3) = false := beq_eq_false_iff_ne.mpr c46
           have c46b1 : (t216 != 3) = true := bne_iff_ne.mpr c46
           (first | rw [c46b0] | (simp only [i64_w, i32_w]; rw [c46b0]) | skip)
           have H' := Aside0.mk H
           clear H
           have hnb50 := NB220_225.out
           have hnc50 := NB225_220.out
           have hcz51_0 : wc.cell? ⟨gb220, 0, none⟩ = some (.int .i64 t216) := (blk_cell BK220.out 0).trans rfl
           have hcz51_1 : wc.cell? ⟨gb220, 1, none⟩ = some (.bool t217) := (blk_cell BK220.out 1).trans rfl
           have hcz51_2 : wc.cell? ⟨gb220, 2, none⟩ = some (.int .u64 t218) := (blk_cell BK220.out 2).trans rfl
           have hcz51_3 : wc.cell? ⟨gb220, 3, none⟩ = some (.int .i64 t219) := (blk_cell BK220.out 3).trans rfl
           have hfz51_0 := blk_frozen BK220.out 0
           have hfz51_1 := blk_frozen BK220.out 1
           have hfz51_2 := blk_frozen BK220.out 2
           have hfz51_3 := blk_frozen BK220.out 3
           go_wp2
           go_meet
           case rel => exact ⟨_, (false), (by first | rfl | (simp; done) | (simp [*]; done)), H', ⟨by have := HJ4.out; have := HJ19.out; first | omega | exact Nat.le_refl _⟩, ⟨by (with_reducible repeat (first | refine blk_drewN ?_ _ | refine blk_drew ?_ | refine blk_alloc ?_ _)); exact BK220.out⟩, ⟨by (with_reducible repeat (first | refine blk_drewN ?_ _ | refine blk_drew ?_ | refine blk_alloc ?_ _)); exact BK225.out⟩, ⟨by repeat (first | (with_reducible first | exact HB.out | apply below_alloc | apply pw_below_drewN | apply below_drew1 | refine below_set ?_ GE220.out | refine below_set ?_ GE225.out) | exact HB.out)⟩⟩
         case rest =>
          clear HC42
          try clear c1
          try clear c2
          try clear p2
          try clear c3
          try clear c4
          try clear c5
          try clear c6
          try clear c11
          try clear c13
          try clear c13b0
          try clear c13b1
          try clear c14
          try clear c16
          try clear c19
          try clear c21
          try clear c21b0
          try clear c21b1
          try clear c22
          try clear c25
          try clear c27
          try clear c28
          try clear c28b0
          try clear c28b1
          try clear c28b2
          try clear c29
          try clear c32
          try clear c35
          try clear c35b0
          try clear c35b1
          try clear c36
          try clear c38
          try clear c38b0
          try clear c38b1
          try clear c39
          try clear c43
          try clear c46
          try clear c46b0
          try clear c46b1
          try clear c47
          try clear c50
          try clear hcz12_0
          try clear hcz12_1
          try clear hcz12_2
          try clear hcz12_3
          try clear hcz15_0
          try clear hcz15_1
          try clear hcz15_2
          try clear hcz15_3
          try clear hcz17_0
          try clear hcz17_1
          try clear hcz17_2
          try clear hcz17_3
          try clear hcz18_0
          try clear hcz18_1
          try clear hcz18_2
          try clear hcz18_3
          try clear hcz23_0
          try clear hcz23_1
          try clear hcz23_2
          try clear hcz23_3
          try clear hcz24_0
          try clear hcz24_1
          try clear hcz24_2
          try clear hcz24_3
          try clear hcz26_0
          try clear hcz26_1
          try clear hcz26_2
          try clear hcz26_3
          try clear hcz30_0
          try clear hcz30_1
          try clear hcz30_2
          try clear hcz30_3
          try clear hcz31_0
          try clear hcz31_1
          try clear hcz31_2
          try clear hcz31_3
          try clear hcz33_0
          try clear hcz33_1
          try clear hcz33_2
          try clear hcz33_3
          try clear hcz34_0
          try clear hcz34_1
          try clear hcz34_2
          try clear hcz34_3
          try clear hcz37_0
          try clear hcz37_1
          try clear hcz37_2
          try clear hcz37_3
          try clear hcz40_0
          try clear hcz40_1
          try clear hcz40_2
          try clear hcz40_3
          try clear hcz41_0
          try clear hcz41_1
          try clear hcz41_2
          try clear hcz41_3
          try clear hcz44_0
          try clear hcz44_1
          try clear hcz44_2
          try clear hcz44_3
          try clear hcz45_0
          try clear hcz45_1
          try clear hcz45_2
          try clear hcz45_3
          try clear hcz48_0
          try clear hcz48_1
          try clear hcz48_2
          try clear hcz48_3
          try clear hcz49_0
          try clear hcz49_1
          try clear hcz49_2
          try clear hcz49_3
          try clear hcz51_0
          try clear hcz51_1
          try clear hcz51_2
          try clear hcz51_3
          try clear hcz8_0
          try clear hcz8_1
          try clear hcz8_2
          try clear hcz8_3
          try clear hfz12_0
          try clear hfz12_1
          try clear hfz12_2
          try clear hfz12_3
          try clear hfz15_0
          try clear hfz15_1
          try clear hfz15_2
          try clear hfz15_3
          try clear hfz17_0
          try clear hfz17_1
          try clear hfz17_2
          try clear hfz17_3
          try clear hfz18_0
          try clear hfz18_1
          try clear hfz18_2
          try clear hfz18_3
          try clear hfz23_0
          try clear hfz23_1
          try clear hfz23_2
          try clear hfz23_3
          try clear hfz24_0
          try clear hfz24_1
          try clear hfz24_2
          try clear hfz24_3
          try clear hfz26_0
          try clear hfz26_1
          try clear hfz26_2
          try clear hfz26_3
          try clear hfz30_0
          try clear hfz30_1
          try clear hfz30_2
          try clear hfz30_3
          try clear hfz31_0
          try clear hfz31_1
          try clear hfz31_2
          try clear hfz31_3
          try clear hfz33_0
          try clear hfz33_1
          try clear hfz33_2
          try clear hfz33_3
          try clear hfz34_0
          try clear hfz34_1
          try clear hfz34_2
          try clear hfz34_3
          try clear hfz37_0
          try clear hfz37_1
          try clear hfz37_2
          try clear hfz37_3
          try clear hfz40_0
          try clear hfz40_1
          try clear hfz40_2
          try clear hfz40_3
          try clear hfz41_0
          try clear hfz41_1
          try clear hfz41_2
          try clear hfz41_3
          try clear hfz44_0
          try clear hfz44_1
          try clear hfz44_2
          try clear hfz44_3
          try clear hfz45_0
          try clear hfz45_1
          try clear hfz45_2
          try clear hfz45_3
          try clear hfz48_0
          try clear hfz48_1
          try clear hfz48_2
          try clear hfz48_3
          try clear hfz49_0
          try clear hfz49_1
          try clear hfz49_2
          try clear hfz49_3
          try clear hfz51_0
          try clear hfz51_1
          try clear hfz51_2
          try clear hfz51_3
          try clear hfz8_0
          try clear hfz8_1
          try clear hfz8_2
          try clear hfz8_3
          try clear p2
          obtain ⟨kq, x50_41, rfl, HA, HJ41, BK220, BK225, HB⟩ := hcut
          cases kq with
          | zero => exact absurd HA.out (by simp [spec_Add.j2])
          | succ kj41 =>
           have H := HA.out
           clear HA
           simp only [spec_Add.j2] at H
           by_cases c52 : x50_41 = true
           ·subst c52
            have H1 : (if t217 = true then (if t222 = true then (some a0) else (some 0)) else (some 0)) = some r := by rw [if_pos rfl] at H; exact H
            clear H
            have H := H1
            clear H1
            by_cases c53 : t217 = true
            ·subst c53
             have H1 : (if t222 = true then (some a0) else (some 0)) = some r := by rw [if_pos rfl] at H; exact H
             clear H
             have H := H1
             clear H1
             by_cases c54 : t222 = true
             ·subst c54
              have H1 : (some a0) = some r := by rw [if_pos rfl] at H; exact H
              clear H
              have H := H1
              clear H1
              obtain rfl := Option.some.inj H
              have hnb55 := NB220_225.out
              have hnc55 := NB225_220.out
              have hcz56_0 : wc.cell? ⟨gb220, 0, none⟩ = some (.int .i64 t216) := (blk_cell BK220.out 0).trans rfl
              have hcz56_1 : wc.cell? ⟨gb220, 1, none⟩ = some (.bool true) := (blk_cell BK220.out 1).trans rfl
              have hcz56_2 : wc.cell? ⟨gb220, 2, none⟩ = some (.int .u64 t218) := (blk_cell BK220.out 2).trans rfl
              have hcz56_3 : wc.cell? ⟨gb220, 3, none⟩ = some (.int .i64 t219) := (blk_cell BK220.out 3).trans rfl
              have hfz56_0 := blk_frozen BK220.out 0
              have hfz56_1 := blk_frozen BK220.out 1
              have hfz56_2 := blk_frozen BK220.out 2
              have hfz56_3 := blk_frozen BK220.out 3
              have hcz57_0 : wc.cell? ⟨gb225, 0, none⟩ = some (.int .i64 t221) := (blk_cell BK225.out 0).trans rfl
              have hcz57_1 : wc.cell? ⟨gb225, 1, none⟩ = some (.bool true) := (blk_cell BK225.out 1).trans rfl
              have hcz57_2 : wc.cell? ⟨gb225, 2, none⟩ = some (.int .u64 t223) := (blk_cell BK225.out 2).trans rfl
              have hcz57_3 : wc.cell? ⟨gb225, 3, none⟩ = some (.int .i64 t224) := (blk_cell BK225.out 3).trans rfl
              have hfz57_0 := blk_frozen BK225.out 0
              have hfz57_1 := blk_frozen BK225.out 1
              have hfz57_2 := blk_frozen BK225.out 2
              have hfz57_3 := blk_frozen BK225.out 3
              go_wp2
              go_ret
              exact ⟨by first | rfl | (simp; done) | (simp [errW_none, errW_some] <;> rfl) | (simp [*, errW_none, errW_some] <;> rfl) | (simp [bne, List.isEmpty_iff]; done) | (rw [Bool.eq_iff_iff]; simp), by repeat (first | (with_reducible first | exact HB.out | apply below_alloc | apply pw_below_drewN | apply below_drew1 | refine below_set ?_ GE220.out | refine below_set ?_ GE225.out) | exact HB.out)⟩
             ·replace c54 := Bool.eq_false_iff.mpr c54
              subst c54
              have H1 : (some 0) = some r := by rw [if_neg (show ¬ (false = true) by decide)] at H; exact H
              clear H
              have H := H1
              clear H1
              obtain rfl := Option.some.inj H
              have hnb58 := NB220_225.out
              have hnc58 := NB225_220.out
              have hcz59_0 : wc.cell? ⟨gb220, 0, none⟩ = some (.int .i64 t216) := (blk_cell BK220.out 0).trans rfl
              have hcz59_1 : wc.cell? ⟨gb220, 1, none⟩ = some (.bool true) := (blk_cell BK220.out 1).trans rfl
              have hcz59_2 : wc.cell? ⟨gb220, 2, none⟩ = some (.int .u64 t218) := (blk_cell BK220.out 2).trans rfl
              have hcz59_3 : wc.cell? ⟨gb220, 3, none⟩ = some (.int .i64 t219) := (blk_cell BK220.out 3).trans rfl
              have hfz59_0 := blk_frozen BK220.out 0
              have hfz59_1 := blk_frozen BK220.out 1
              have hfz59_2 := blk_frozen BK220.out 2
              have hfz59_3 := blk_frozen BK220.out 3
              have hcz60_0 : wc.cell? ⟨gb225, 0, none⟩ = some (.int .i64 t221) := (blk_cell BK225.out 0).trans rfl
              have hcz60_1 : wc.cell? ⟨gb225, 1, none⟩ = some (.bool false) := (blk_cell BK225.out 1).trans rfl
              have hcz60_2 : wc.cell? ⟨gb225, 2, none⟩ = some (.int .u64 t223) := (blk_cell BK225.out 2).trans rfl
              have hcz60_3 : wc.cell? ⟨gb225, 3, none⟩ = some (.int .i64 t224) := (blk_cell BK225.out 3).trans rfl
              have hfz60_0 := blk_frozen BK225.out 0
              have hfz60_1 := blk_frozen BK225.out 1
              have hfz60_2 := blk_frozen BK225.out 2
              have hfz60_3 := blk_frozen BK225.out 3
              go_wp2
              go_ret
              exact ⟨by first | rfl | (simp; done) | (simp [errW_none, errW_some] <;> rfl) | (simp [*, errW_none, errW_some] <;> rfl) | (simp [bne, List.isEmpty_iff]; done) | (rw [Bool.eq_iff_iff]; simp), by repeat (first | (with_reducible first | exact HB.out | apply below_alloc | apply pw_below_drewN | apply below_drew1 | refine below_set ?_ GE220.out | refine below_set ?_ GE225.out) | exact HB.out)⟩
            ·replace c53 := Bool.eq_false_iff.mpr c53
             subst c53
             have H1 : (some 0) = some r := by rw [if_neg (show ¬ (false = true) by decide)] at H; exact H
             clear H
             have H := H1
             clear H1
             obtain rfl := Option.some.inj H
             have hnb61 := NB220_225.out
             have hnc61 := NB225_220.out
             have hcz62_0 : wc.cell? ⟨gb220, 0, none⟩ = some (.int .i64 t216) := (blk_cell BK220.out 0).trans rfl
             have hcz62_1 : wc.cell? ⟨gb220, 1, none⟩ = some (.bool false) := (blk_cell BK220.out 1).trans rfl
             have hcz62_2 : wc.cell? ⟨gb220, 2, none⟩ = some (.int .u64 t218) := (blk_cell BK220.out 2).trans rfl
             have hcz62_3 : wc.cell? ⟨gb220, 3, none⟩ = some (.int .i64 t219) := (blk_cell BK220.out 3).trans rfl
             have hfz62_0 := blk_frozen BK220.out 0
             have hfz62_1 := blk_frozen BK220.out 1
             have hfz62_2 := blk_frozen BK220.out 2
             have hfz62_3 := blk_frozen BK220.out 3
             go_wp2
             go_ret
             exact ⟨by first | rfl | (simp; done) | (simp [errW_none, errW_some] <;> rfl) | (simp [*, errW_none, errW_some] <;> rfl) | (simp [bne, List.isEmpty_iff]; done) | (rw [Bool.eq_iff_iff]; simp), by repeat (first | (with_reducible first | exact HB.out | apply below_alloc | apply pw_below_drewN | apply below_drew1 | refine below_set ?_ GE220.out | refine below_set ?_ GE225.out) | exact HB.out)⟩
           ·replace c52 := Bool.eq_false_iff.mpr c52
            subst c52
            have H1 : (if t216 = 3 then (some a1) else (if t221 = 3 then (some a0) else (if t219 < t224 then (spec_Add.j3 kj41 true t216 t217 t218 t219 t221 t222 t223 t224) else (if t219 = t224 then (spec_Add.j3 kj41 (decide (t218 < t223)) t216 t217 t218 t219 t221 t222 t223 t224) else (spec_Add.j3 kj41 false t216 t217 t218 t219 t221 t222 t223 t224))))) = some r := by rw [if_neg (show ¬ (false = true) by decide)] at H; exact H
            clear H
            have H := H1
            clear H1
            by_cases c63 : t216 = 3
            ·rw [if_pos c63] at H
             have c63b0 : (t216 == 3) = true := beq_iff_eq.mpr c63
             have c63b1 : (t216 != 3) = false := bne_eq_false_iff_eq.mpr c63
             clear c63
             obtain rfl := Option.some.inj H
             have hnb64 := NB220_225.out
             have hnc64 := NB225_220.out
             have hcz65_0 : wc.cell? ⟨gb220, 0, none⟩ = some (.int .i64 t216) := (blk_cell BK220.out 0).trans rfl
             have hcz65_1 : wc.cell? ⟨gb220, 1, none⟩ = some (.bool t217) := (blk_cell BK220.out 1).trans rfl
             have hcz65_2 : wc.cell? ⟨gb220, 2, none⟩ = some (.int .u64 t218) := (blk_cell BK220.out 2).trans rfl
             have hcz65_3 : wc.cell? ⟨gb220, 3, none⟩ = some (.int .i64 t219) := (blk_cell BK220.out 3).trans rfl
             have hfz65_0 := blk_frozen BK220.out 0
             have hfz65_1 := blk_frozen BK220.out 1
             have hfz65_2 := blk_frozen BK220.out 2
             have hfz65_3 := blk_frozen BK220.out 3
             go_wp2
             go_ret
             exact ⟨by first | rfl | (simp; done) | (simp [errW_none, errW_some] <;> rfl) | (simp [*, errW_none, errW_some] <;> rfl) | (simp [bne, List.isEmpty_iff]; done) | (rw [Bool.eq_iff_iff]; simp), by repeat (first | (with_reducible first | exact HB.out | apply below_alloc | apply pw_below_drewN | apply below_drew1 | refine below_set ?_ GE220.out | refine below_set ?_ GE225.out) | exact HB.out)⟩
            ·rw [if_neg c63] at H
             have c63b0 : (t216 == 3) = false := beq_eq_false_iff_ne.mpr c63
             have c63b1 : (t216 != 3) = true := bne_iff_ne.mpr c63
             by_cases c66 : t221 = 3
             ·rw [if_pos c66] at H
              have c66b0 : (t221 == 3) = true := beq_iff_eq.mpr c66
              have c66b1 : (t221 != 3) = false := bne_eq_false_iff_eq.mpr c66
              clear c66
              obtain rfl := Option.some.inj H
              have hnb67 := NB220_225.out
              have hnc67 := NB225_220.out
              have hcz68_0 : wc.cell? ⟨gb220, 0, none⟩ = some (.int .i64 t216) := (blk_cell BK220.out 0).trans rfl
              have hcz68_1 : wc.cell? ⟨gb220, 1, none⟩ = some (.bool t217) := (blk_cell BK220.out 1).trans rfl
              have hcz68_2 : wc.cell? ⟨gb220, 2, none⟩ = some (.int .u64 t218) := (blk_cell BK220.out 2).trans rfl
              have hcz68_3 : wc.cell? ⟨gb220, 3, none⟩ = some (.int .i64 t219) := (blk_cell BK220.out 3).trans rfl
              have hfz68_0 := blk_frozen BK220.out 0
              have hfz68_1 := blk_frozen BK220.out 1
              have hfz68_2 := blk_frozen BK220.out 2
              have hfz68_3 := blk_frozen BK220.out 3
              have hcz69_0 : wc.cell? ⟨gb225, 0, none⟩ = some (.int .i64 t221) := (blk_cell BK225.out 0).trans rfl
              have hcz69_1 : wc.cell? ⟨gb225, 1, none⟩ = some (.bool t222) := (blk_cell BK225.out 1).trans rfl
              have hcz69_2 : wc.cell? ⟨gb225, 2, none⟩ = some (.int .u64 t223) := (blk_cell BK225.out 2).trans rfl
              have hcz69_3 : wc.cell? ⟨gb225, 3, none⟩ = some (.int .i64 t224) := (blk_cell BK225.out 3).trans rfl
              have hfz69_0 := blk_frozen BK225.out 0
              have hfz69_1 := blk_frozen BK225.out 1
              have hfz69_2 := blk_frozen BK225.out 2
              have hfz69_3 := blk_frozen BK225.out 3
              go_wp2
              go_ret
              exact ⟨by first | rfl | (simp; done) | (simp [errW_none, errW_some] <;> rfl) | (simp [*, errW_none, errW_some] <;> rfl) | (simp [bne, List.isEmpty_iff]; done) | (rw [Bool.eq_iff_iff]; simp), by repeat (first | (with_reducible first | exact HB.out | apply below_alloc | apply pw_below_drewN | apply below_drew1 | refine below_set ?_ GE220.out | refine below_set ?_ GE225.out) | exact HB.out)⟩
             ·rw [if_neg c66] at H
              have c66b0 : (t221 == 3) = false := beq_eq_false_iff_ne.mpr c66
              have c66b1 : (t221 != 3) = true := bne_iff_ne.mpr c66
              have HC70 := Aside0.mk H
              clear H
              have hnb71 := NB220_225.out
              have hnc71 := NB225_220.out
              have hcz72_0 : wc.cell? ⟨gb220, 0, none⟩ = some (.int .i64 t216) := (blk_cell BK220.out 0).trans rfl
              have hcz72_1 : wc.cell? ⟨gb220, 1, none⟩ = some (.bool t217) := (blk_cell BK220.out 1).trans rfl
              have hcz72_2 : wc.cell? ⟨gb220, 2, none⟩ = some (.int .u64 t218) := (blk_cell BK220.out 2).trans rfl
              have hcz72_3 : wc.cell? ⟨gb220, 3, none⟩ = some (.int .i64 t219) := (blk_cell BK220.out 3).trans rfl
              have hfz72_0 := blk_frozen BK220.out 0
              have hfz72_1 := blk_frozen BK220.out 1
              have hfz72_2 := blk_frozen BK220.out 2
              have hfz72_3 := blk_frozen BK220.out 3
              have hcz73_0 : wc.cell? ⟨gb225, 0, none⟩ = some (.int .i64 t221) := (blk_cell BK225.out 0).trans rfl
              have hcz73_1 : wc.cell? ⟨gb225, 1, none⟩ = some (.bool t222) := (blk_cell BK225.out 1).trans rfl
              have hcz73_2 : wc.cell? ⟨gb225, 2, none⟩ = some (.int .u64 t223) := (blk_cell BK225.out 2).trans rfl
              have hcz73_3 : wc.cell? ⟨gb225, 3, none⟩ = some (.int .i64 t224) := (blk_cell BK225.out 3).trans rfl
              have hfz73_0 := blk_frozen BK225.out 0
              have hfz73_1 := blk_frozen BK225.out 1
              have hfz73_2 := blk_frozen BK225.out 2
              have hfz73_3 := blk_frozen BK225.out 3
              go_upto_region 21 with (fail)
              go_cut [94] (fun v94 wc => ∃ (kq : Nat) (x94_69 : Bool), v94 = .bool x94_69 ∧ Aside0 (spec_Add.j3 kq x94_69 t216 t217 t218 t219 t221 t222 t223 t224 = some r) ∧ Aside0 (kq ≤ kj41) ∧ Aside0 (wc.heap[gb220]? = some (.cells #[.int .i64 t216, .bool t217, .int .u64 t218, .int .i64 t219] 34 (0, 0))) ∧ Aside0 (wc.heap[gb225]? = some (.cells #[.int .i64 t221, .bool t222, .int .u64 t223, .int .i64 t224] 34 (0, 0))) ∧ Aside0 (Below w.heap.size w wc))
              case first =>
               have H := HC70.out
               clear HC70
               by_cases c74 : t219 < t224
               ·rw [if_pos c74] at H
                have c74b0 : decide (t219 < t224) = true := decide_eq_true c74
                clear c74
                (first | rw [c74b0] | (simp only [i64_w, i32_w]; rw [c74b0]) | skip)
                have H' := Aside0.mk H
                clear H
                have hnb75 := NB220_225.out
                have hnc75 := NB225_220.out
                have hcz76_0 : wc.cell? ⟨gb220, 0, none⟩ = some (.int .i64 t216) := (blk_cell BK220.out 0).trans rfl
                have hcz76_1 : wc.cell? ⟨gb220, 1, none⟩ = some (.bool t217) := (blk_cell BK220.out 1).trans rfl
                have hcz76_2 : wc.cell? ⟨gb220, 2, none⟩ = some (.int .u64 t218) := (blk_cell BK220.out 2).trans rfl
                have hcz76_3 : wc.cell? ⟨gb220, 3, none⟩ = some (.int .i64 t219) := (blk_cell BK220.out 3).trans rfl
                have hfz76_0 := blk_frozen BK220.out 0
                have hfz76_1 := blk_frozen BK220.out 1
                have hfz76_2 := blk_frozen BK220.out 2
                have hfz76_3 := blk_frozen BK220.out 3
                have hcz77_0 : wc.cell? ⟨gb225, 0, none⟩ = some (.int .i64 t221) := (blk_cell BK225.out 0).trans rfl
                have hcz77_1 : wc.cell? ⟨gb225, 1, none⟩ = some (.bool t222) := (blk_cell BK225.out 1).trans rfl
                have hcz77_2 : wc.cell? ⟨gb225, 2, none⟩ = some (.int .u64 t223) := (blk_cell BK225.out 2).trans rfl
                have hcz77_3 : wc.cell? ⟨gb225, 3, none⟩ = some (.int .i64 t224) := (blk_cell BK225.out 3).trans rfl
                have hfz77_0 := blk_frozen BK225.out 0
                have hfz77_1 := blk_frozen BK225.out 1
                have hfz77_2 := blk_frozen BK225.out 2
                have hfz77_3 := blk_frozen BK225.out 3
                go_wp2
                go_meet
                case rel => exact ⟨_, (true), (by first | rfl | (simp; done) | (simp [*]; done)), H', ⟨by have := HJ4.out; have := HJ19.out; have := HJ41.out; first | omega | exact Nat.le_refl _⟩, ⟨by (with_reducible repeat (first | refine blk_drewN ?_ _ | refine blk_drew ?_ | refine blk_alloc ?_ _)); exact BK220.out⟩, ⟨by (with_reducible repeat (first | refine blk_drewN ?_ _ | refine blk_drew ?_ | refine blk_alloc ?_ _)); exact BK225.out⟩, ⟨by repeat (first | (with_reducible first | exact HB.out | apply below_alloc | apply pw_below_drewN | apply below_drew1 | refine below_set ?_ GE220.out | refine below_set ?_ GE225.out) | exact HB.out)⟩⟩
               ·rw [if_neg c74] at H
                have c74b0 : decide (t219 < t224) = false := decide_eq_false c74
                clear c74
                (first | rw [c74b0] | (simp only [i64_w, i32_w]; rw [c74b0]) | skip)
                by_cases c78 : t219 = t224
                ·rw [if_pos c78] at H
                 have c78b0 : (t219 == t224) = true := beq_iff_eq.mpr c78
                 have c78b1 : (t219 != t224) = false := bne_eq_false_iff_eq.mpr c78
                 clear c78
                 have H' := Aside0.mk H
                 clear H
                 have hnb79 := NB220_225.out
                 have hnc79 := NB225_220.out
                 have hcz80_0 : wc.cell? ⟨gb220, 0, none⟩ = some (.int .i64 t216) := (blk_cell BK220.out 0).trans rfl
                 have hcz80_1 : wc.cell? ⟨gb220, 1, none⟩ = some (.bool t217) := (blk_cell BK220.out 1).trans rfl
                 have hcz80_2 : wc.cell? ⟨gb220, 2, none⟩ = some (.int .u64 t218) := (blk_cell BK220.out 2).trans rfl
                 have hcz80_3 : wc.cell? ⟨gb220, 3, none⟩ = some (.int .i64 t219) := (blk_cell BK220.out 3).trans rfl
                 have hfz80_0 := blk_frozen BK220.out 0
                 have hfz80_1 := blk_frozen BK220.out 1
                 have hfz80_2 := blk_frozen BK220.out 2
                 have hfz80_3 := blk_frozen BK220.out 3
                 have hcz81_0 : wc.cell? ⟨gb225, 0, none⟩ = some (.int .i64 t221) := (blk_cell BK225.out 0).trans rfl
                 have hcz81_1 : wc.cell? ⟨gb225, 1, none⟩ = some (.bool t222) := (blk_cell BK225.out 1).trans rfl
                 have hcz81_2 : wc.cell? ⟨gb225, 2, none⟩ = some (.int .u64 t223) := (blk_cell BK225.out 2).trans rfl
                 have hcz81_3 : wc.cell? ⟨gb225, 3, none⟩ = some (.int .i64 t224) := (blk_cell BK225.out 3).trans rfl
                 have hfz81_0 := blk_frozen BK225.out 0
                 have hfz81_1 := blk_frozen BK225.out 1
                 have hfz81_2 := blk_frozen BK225.out 2
                 have hfz81_3 := blk_frozen BK225.out 3
                 go_wp2
                 go_meet
                 case rel => exact ⟨_, (decide (t218 < t223)), (by first | rfl | (simp; done) | (simp [*]; done)), H', ⟨by have := HJ4.out; have := HJ19.out; have := HJ41.out; first | omega | exact Nat.le_refl _⟩, ⟨by (with_reducible repeat (first | refine blk_drewN ?_ _ | refine blk_drew ?_ | refine blk_alloc ?_ _)); exact BK220.out⟩, ⟨by (with_reducible repeat (first | refine blk_drewN ?_ _ | refine blk_drew ?_ | refine blk_alloc ?_ _)); exact BK225.out⟩, ⟨by repeat (first | (with_reducible first | exact HB.out | apply below_alloc | apply pw_below_drewN | apply below_drew1 | refine below_set ?_ GE220.out | refine below_set ?_ GE225.out) | exact HB.out)⟩⟩
                ·rw [if_neg c78] at H
                 have c78b0 : (t219 == t224) = false := beq_eq_false_iff_ne.mpr c78
                 have c78b1 : (t219 != t224) = true := bne_iff_ne.mpr c78
                 have H' := Aside0.mk H
                 clear H
                 have hnb82 := NB220_225.out
                 have hnc82 := NB225_220.out
                 have hcz83_0 : wc.cell? ⟨gb220, 0, none⟩ = some (.int .i64 t216) := (blk_cell BK220.out 0).trans rfl
                 have hcz83_1 : wc.cell? ⟨gb220, 1, none⟩ = some (.bool t217) := (blk_cell BK220.out 1).trans rfl
                 have hcz83_2 : wc.cell? ⟨gb220, 2, none⟩ = some (.int .u64 t218) := (blk_cell BK220.out 2).trans rfl
                 have hcz83_3 : wc.cell? ⟨gb220, 3, none⟩ = some (.int .i64 t219) := (blk_cell BK220.out 3).trans rfl
                 have hfz83_0 := blk_frozen BK220.out 0
                 have hfz83_1 := blk_frozen BK220.out 1
                 have hfz83_2 := blk_frozen BK220.out 2
                 have hfz83_3 := blk_frozen BK220.out 3
                 have hcz84_0 : wc.cell? ⟨gb225, 0, none⟩ = some (.int .i64 t221) := (blk_cell BK225.out 0).trans rfl
                 have hcz84_1 : wc.cell? ⟨gb225, 1, none⟩ = some (.bool t222) := (blk_cell BK225.out 1).trans rfl
                 have hcz84_2 : wc.cell? ⟨gb225, 2, none⟩ = some (.int .u64 t223) := (blk_cell BK225.out 2).trans rfl
                 have hcz84_3 : wc.cell? ⟨gb225, 3, none⟩ = some (.int .i64 t224) := (blk_cell BK225.out 3).trans rfl
                 have hfz84_0 := blk_frozen BK225.out 0
                 have hfz84_1 := blk_frozen BK225.out 1
                 have hfz84_2 := blk_frozen BK225.out 2
                 have hfz84_3 := blk_frozen BK225.out 3
                 go_wp2
                 go_meet
                 case rel => exact ⟨_, (false), (by first | rfl | (simp; done) | (simp [*]; done)), H', ⟨by have := HJ4.out; have := HJ19.out; have := HJ41.out; first | omega | exact Nat.le_refl _⟩, ⟨by (with_reducible repeat (first | refine blk_drewN ?_ _ | refine blk_drew ?_ | refine blk_alloc ?_ _)); exact BK220.out⟩, ⟨by (with_reducible repeat (first | refine blk_drewN ?_ _ | refine blk_drew ?_ | refine blk_alloc ?_ _)); exact BK225.out⟩, ⟨by repeat (first | (with_reducible first | exact HB.out | apply below_alloc | apply pw_below_drewN | apply below_drew1 | refine below_set ?_ GE220.out | refine below_set ?_ GE225.out) | exact HB.out)⟩⟩
              case rest =>
               clear HC70
               try clear c1
               try clear c2
               try clear p2
               try clear c3
               try clear c4
               try clear c5
               try clear c6
               try clear c7
               try clear c8
               try clear c11
               try clear c13
               try clear c13b0
               try clear c13b1
               try clear c14
               try clear c16
               try clear c19
               try clear c21
               try clear c21b0
               try clear c21b1
               try clear c22
               try clear c25
               try clear c27
               try clear c28
               try clear c28b0
               try clear c28b1
               try clear c28b2
               try clear c29
               try clear c32
               try clear c35
               try clear c35b0
               try clear c35b1
               try clear c36
               try clear c38
               try clear c38b0
               try clear c38b1
               try clear c39
               try clear c43
               try clear c46
               try clear c46b0
               try clear c46b1
               try clear c47
               try clear c50
               try clear c52
               try clear c53
               try clear c54
               try clear c55
               try clear c58
               try clear c61
               try clear c63
               try clear c63b0
               try clear c63b1
               try clear c64
               try clear c66
               try clear c66b0
               try clear c66b1
               try clear c67
               try clear c71
               try clear c74
               try clear c74b0
               try clear c75
               try clear c78
               try clear c78b0
               try clear c78b1
               try clear c79
               try clear c82
               try clear hcz12_0
               try clear hcz12_1
               try clear hcz12_2
               try clear hcz12_3
               try clear hcz15_0
               try clear hcz15_1
               try clear hcz15_2
               try clear hcz15_3
               try clear hcz17_0
               try clear hcz17_1
               try clear hcz17_2
               try clear hcz17_3
               try clear hcz18_0
               try clear hcz18_1
               try clear hcz18_2
               try clear hcz18_3
               try clear hcz23_0
               try clear hcz23_1
               try clear hcz23_2
               try clear hcz23_3
               try clear hcz24_0
               try clear hcz24_1
               try clear hcz24_2
               try clear hcz24_3
               try clear hcz26_0
               try clear hcz26_1
               try clear hcz26_2
               try clear hcz26_3
               try clear hcz30_0
               try clear hcz30_1
               try clear hcz30_2
               try clear hcz30_3
               try clear hcz31_0
               try clear hcz31_1
               try clear hcz31_2
               try clear hcz31_3
               try clear hcz33_0
               try clear hcz33_1
               try clear hcz33_2
               try clear hcz33_3
               try clear hcz34_0
               try clear hcz34_1
               try clear hcz34_2
               try clear hcz34_3
               try clear hcz37_0
               try clear hcz37_1
               try clear hcz37_2
               try clear hcz37_3
               try clear hcz40_0
               try clear hcz40_1
               try clear hcz40_2
               try clear hcz40_3
               try clear hcz41_0
               try clear hcz41_1
               try clear hcz41_2
               try clear hcz41_3
               try clear hcz44_0
               try clear hcz44_1
               try clear hcz44_2
               try clear hcz44_3
               try clear hcz45_0
               try clear hcz45_1
               try clear hcz45_2
               try clear hcz45_3
               try clear hcz48_0
               try clear hcz48_1
               try clear hcz48_2
               try clear hcz48_3
               try clear hcz49_0
               try clear hcz49_1
               try clear hcz49_2
               try clear hcz49_3
               try clear hcz51_0
               try clear hcz51_1
               try clear hcz51_2
               try clear hcz51_3
               try clear hcz56_0
               try clear hcz56_1
               try clear hcz56_2
               try clear hcz56_3
               try clear hcz57_0
               try clear hcz57_1
               try clear hcz57_2
               try clear hcz57_3
               try clear hcz59_0
               try clear hcz59_1
               try clear hcz59_2
               try clear hcz59_3
               try clear hcz60_0
               try clear hcz60_1
               try clear hcz60_2
               try clear hcz60_3
               try clear hcz62_0
               try clear hcz62_1
               try clear hcz62_2
               try clear hcz62_3
               try clear hcz65_0
               try clear hcz65_1
               try clear hcz65_2
               try clear hcz65_3
               try clear hcz68_0
               try clear hcz68_1
               try clear hcz68_2
               try clear hcz68_3
               try clear hcz69_0
               try clear hcz69_1
               try clear hcz69_2
               try clear hcz69_3
               try clear hcz72_0
               try clear hcz72_1
               try clear hcz72_2
               try clear hcz72_3
               try clear hcz73_0
               try clear hcz73_1
               try clear hcz73_2
               try clear hcz73_3
               try clear hcz76_0
               try clear hcz76_1
               try clear hcz76_2
               try clear hcz76_3
               try clear hcz77_0
               try clear hcz77_1
               try clear hcz77_2
               try clear hcz77_3
               try clear hcz80_0
               try clear hcz80_1
               try clear hcz80_2
               try clear hcz80_3
               try clear hcz81_0
               try clear hcz81_1
               try clear hcz81_2
               try clear hcz81_3
               try clear hcz83_0
               try clear hcz83_1
               try clear hcz83_2
               try clear hcz83_3
               try clear hcz84_0
               try clear hcz84_1
               try clear hcz84_2
               try clear hcz84_3
               try clear hcz8_0
               try clear hcz8_1
               try clear hcz8_2
               try clear hcz8_3
               try clear hfz12_0
               try clear hfz12_1
               try clear hfz12_2
               try clear hfz12_3
               try clear hfz15_0
               try clear hfz15_1
               try clear hfz15_2
               try clear hfz15_3
               try clear hfz17_0
               try clear hfz17_1
               try clear hfz17_2
               try clear hfz17_3
               try clear hfz18_0
               try clear hfz18_1
               try clear hfz18_2
               try clear hfz18_3
               try clear hfz23_0
               try clear hfz23_1
               try clear hfz23_2
               try clear hfz23_3
               try clear hfz24_0
               try clear hfz24_1
               try clear hfz24_2
               try clear hfz24_3
               try clear hfz26_0
               try clear hfz26_1
               try clear hfz26_2
               try clear hfz26_3
               try clear hfz30_0
               try clear hfz30_1
               try clear hfz30_2
               try clear hfz30_3
               try clear hfz31_0
               try clear hfz31_1
               try clear hfz31_2
               try clear hfz31_3
               try clear hfz33_0
               try clear hfz33_1
               try clear hfz33_2
               try clear hfz33_3
               try clear hfz34_0
               try clear hfz34_1
               try clear hfz34_2
               try clear hfz34_3
               try clear hfz37_0
               try clear hfz37_1
               try clear hfz37_2
               try clear hfz37_3
               try clear hfz40_0
               try clear hfz40_1
               try clear hfz40_2
               try clear hfz40_3
               try clear hfz41_0
               try clear hfz41_1
               try clear hfz41_2
               try clear hfz41_3
               try clear hfz44_0
               try clear hfz44_1
               try clear hfz44_2
               try clear hfz44_3
               try clear hfz45_0
               try clear hfz45_1
               try clear hfz45_2
               try clear hfz45_3
               try clear hfz48_0
               try clear hfz48_1
               try clear hfz48_2
               try clear hfz48_3
               try clear hfz49_0
               try clear hfz49_1
               try clear hfz49_2
               try clear hfz49_3
               try clear hfz51_0
               try clear hfz51_1
               try clear hfz51_2
               try clear hfz51_3
               try clear hfz56_0
               try clear hfz56_1
               try clear hfz56_2
               try clear hfz56_3
               try clear hfz57_0
               try clear hfz57_1
               try clear hfz57_2
               try clear hfz57_3
               try clear hfz59_0
               try clear hfz59_1
               try clear hfz59_2
               try clear hfz59_3
               try clear hfz60_0
               try clear hfz60_1
               try clear hfz60_2
               try clear hfz60_3
               try clear hfz62_0
               try clear hfz62_1
               try clear hfz62_2
               try clear hfz62_3
               try clear hfz65_0
               try clear hfz65_1
               try clear hfz65_2
               try clear hfz65_3
               try clear hfz68_0
               try clear hfz68_1
               try clear hfz68_2
               try clear hfz68_3
               try clear hfz69_0
               try clear hfz69_1
               try clear hfz69_2
               try clear hfz69_3
               try clear hfz72_0
               try clear hfz72_1
               try clear hfz72_2
               try clear hfz72_3
               try clear hfz73_0
               try clear hfz73_1
               try clear hfz73_2
               try clear hfz73_3
               try clear hfz76_0
               try clear hfz76_1
               try clear hfz76_2
               try clear hfz76_3
               try clear hfz77_0
               try clear hfz77_1
               try clear hfz77_2
               try clear hfz77_3
               try clear hfz80_0
               try clear hfz80_1
               try clear hfz80_2
               try clear hfz80_3
               try clear hfz81_0
               try clear hfz81_1
               try clear hfz81_2
               try clear hfz81_3
               try clear hfz83_0
               try clear hfz83_1
               try clear hfz83_2
               try clear hfz83_3
               try clear hfz84_0
               try clear hfz84_1
               try clear hfz84_2
               try clear hfz84_3
               try clear hfz8_0
               try clear hfz8_1
               try clear hfz8_2
               try clear hfz8_3
               try clear p2
               obtain ⟨kq, x94_69, rfl, HA, HJ69, BK220, BK225, HB⟩ := hcut
               cases kq with
               | zero => exact absurd HA.out (by simp [spec_Add.j3])
               | succ kj69 =>
                have H := HA.out
                clear HA
                simp only [spec_Add.j3] at H
                have HC85 := Aside0.mk H
                clear H
                go_upto_if 94 with (fail)
                go_cut [] (fun wc => ∃ (kq : Nat) (x221000_84 : Int) (x221001_84 : Bool) (x221002_84 : Int) (x221003_84 : Int) (x226000_84 : Int) (x226001_84 : Bool) (x226002_84 : Int) (x226003_84 : Int), Aside0 (spec_Add.j4 kq x221000_84 x221001_84 x221002_84 x221003_84 x226000_84 x226001_84 x226002_84 x226003_84 = some r) ∧ Aside0 (kq ≤ kj69) ∧ Aside0 (wc.heap[gb220]? = some (.cells #[.int .i64 x221000_84, .bool x221001_84, .int .u64 x221002_84, .int .i64 x221003_84] 34 (0, 0))) ∧ Aside0 (wc.heap[gb225]? = some (.cells #[.int .i64 x226000_84, .bool x226001_84, .int .u64 x226002_84, .int .i64 x226003_84] 34 (0, 0))) ∧ Aside0 (Below w.heap.size w wc))
                case first =>
                 have H := HC85.out
                 clear HC85
                 by_cases c86 : x94_69 = true
                 ·subst c86
                  have H1 : (spec_Add.j4 kj69 t221 t222 t223 t224 t216 t217 t218 t219) = some r := by rw [if_pos rfl] at H; exact H
                  clear H
                  have H := H1
                  clear H1
                  have H' := Aside0.mk H
                  clear H
                  have hnb87 := NB225_220.out
                  have hnc87 := NB220_225.out
                  have hcz88_0 : wc.cell? ⟨gb225, 0, none⟩ = some (.int .i64 t221) := (blk_cell BK225.out 0).trans rfl
                  have hcz88_1 : wc.cell? ⟨gb225, 1, none⟩ = some (.bool t222) := (blk_cell BK225.out 1).trans rfl
                  have hcz88_2 : wc.cell? ⟨gb225, 2, none⟩ = some (.int .u64 t223) := (blk_cell BK225.out 2).trans rfl
                  have hcz88_3 : wc.cell? ⟨gb225, 3, none⟩ = some (.int .i64 t224) := (blk_cell BK225.out 3).trans rfl
                  have hfz88_0 := blk_frozen BK225.out 0
                  have hfz88_1 := blk_frozen BK225.out 1
                  have hfz88_2 := blk_frozen BK225.out 2
                  have hfz88_3 := blk_frozen BK225.out 3
                  have hcz89_0 : wc.cell? ⟨gb220, 0, none⟩ = some (.int .i64 t216) := (blk_cell BK220.out 0).trans rfl
                  have hcz89_1 : wc.cell? ⟨gb220, 1, none⟩ = some (.bool t217) := (blk_cell BK220.out 1).trans rfl
                  have hcz89_2 : wc.cell? ⟨gb220, 2, none⟩ = some (.int .u64 t218) := (blk_cell BK220.out 2).trans rfl
                  have hcz89_3 : wc.cell? ⟨gb220, 3, none⟩ = some (.int .i64 t219) := (blk_cell BK220.out 3).trans rfl
                  have hfz89_0 := blk_frozen BK220.out 0
                  have hfz89_1 := blk_frozen BK220.out 1
                  have hfz89_2 := blk_frozen BK220.out 2
                  have hfz89_3 := blk_frozen BK220.out 3
                  go_wp2
                  go_meet
                  case rel => exact ⟨_, (t221), (t222), (t223), (t224), (t216), (t217), (t218), (t219), H', ⟨by have := HJ4.out; have := HJ19.out; have := HJ41.out; have := HJ69.out; first | omega | exact Nat.le_refl _⟩, ⟨by (with_reducible repeat (first | refine blk_drewN ?_ _ | refine blk_drew ?_ | refine blk_alloc ?_ _)); refine blk_far ?_ NB220_225.out _; (with_reducible repeat (first | refine blk_drewN ?_ _ | refine blk_drew ?_ | refine blk_alloc ?_ _)); refine blk_far ?_ NB220_225.out _; (with_reducible repeat (first | refine blk_drewN ?_ _ | refine blk_drew ?_ | refine blk_alloc ?_ _)); refine blk_far ?_ NB220_225.out _; (with_reducible repeat (first | refine blk_drewN ?_ _ | refine blk_drew ?_ | refine blk_alloc ?_ _)); refine blk_far ?_ NB220_225.out _; (with_reducible repeat (first | refine blk_drewN ?_ _ | refine blk_drew ?_ | refine blk_alloc ?_ _)); refine blk_put (cs := #[.int .i64 t221, .bool t222, .int .u64 t223, .int .i64 t219]) ?_ 3 _ rfl; (with_reducible repeat (first | refine blk_drewN ?_ _ | refine blk_drew ?_ | refine blk_alloc ?_ _)); refine blk_put (cs := #[.int .i64 t221, .bool t222, .int .u64 t218, .int .i64 t219]) ?_ 2 _ rfl; (with_reducible repeat (first | refine blk_drewN ?_ _ | refine blk_drew ?_ | refine blk_alloc ?_ _)); refine blk_put (cs := #[.int .i64 t221, .bool t217, .int .u64 t218, .int .i64 t219]) ?_ 1 _ rfl; (with_reducible repeat (first | refine blk_drewN ?_ _ | refine blk_drew ?_ | refine blk_alloc ?_ _)); refine blk_put (cs := #[.int .i64 t216, .bool t217, .int .u64 t218, .int .i64 t219]) ?_ 0 _ rfl; (with_reducible repeat (first | refine blk_drewN ?_ _ | refine blk_drew ?_ | refine blk_alloc ?_ _)); exact BK220.out⟩, ⟨by (with_reducible repeat (first | refine blk_drewN ?_ _ | refine blk_drew ?_ | refine blk_alloc ?_ _)); refine blk_put (cs := #[.int .i64 t216, .bool t217, .int .u64 t218, .int .i64 t224]) ?_ 3 _ rfl; (with_reducible repeat (first | refine blk_drewN ?_ _ | refine blk_drew ?_ | refine blk_alloc ?_ _)); refine blk_put (cs := #[.int .i64 t216, .bool t217, .int .u64 t223, .int .i64 t224]) ?_ 2 _ rfl; (with_reducible repeat (first | refine blk_drewN ?_ _ | refine blk_drew ?_ | refine blk_alloc ?_ _)); refine blk_put (cs := #[.int .i64 t216, .bool t222, .int .u64 t223, .int .i64 t224]) ?_ 1 _ rfl; (with_reducible repeat (first | refine blk_drewN ?_ _ | refine blk_drew ?_ | refine blk_alloc ?_ _)); refine blk_put (cs := #[.int .i64 t221, .bool t222, .int .u64 t223, .int .i64 t224]) ?_ 0 _ rfl; (with_reducible repeat (first | refine blk_drewN ?_ _ | refine blk_drew ?_ | refine blk_alloc ?_ _)); refine blk_far ?_ NB225_220.out _; (with_reducible repeat (first | refine blk_drewN ?_ _ | refine blk_drew ?_ | refine blk_alloc ?_ _)); refine blk_far ?_ NB225_220.out _; (with_reducible repeat (first | refine blk_drewN ?_ _ | refine blk_drew ?_ | refine blk_alloc ?_ _)); refine blk_far ?_ NB225_220.out _; (with_reducible repeat (first | refine blk_drewN ?_ _ | refine blk_drew ?_ | refine blk_alloc ?_ _)); refine blk_far ?_ NB225_220.out _; (with_reducible repeat (first | refine blk_drewN ?_ _ | refine blk_drew ?_ | refine blk_alloc ?_ _)); exact BK225.out⟩, ⟨by repeat (first | (with_reducible first | exact HB.out | apply below_alloc | apply pw_below_drewN | apply below_drew1 | refine below_set ?_ GE220.out | refine below_set ?_ GE225.out) | exact HB.out)⟩⟩
                 ·replace c86 := Bool.eq_false_iff.mpr c86
                  subst c86
                  have H1 : (spec_Add.j4 kj69 t216 t217 t218 t219 t221 t222 t223 t224) = some r := by rw [if_neg (show ¬ (false = true) by decide)] at H; exact H
                  clear H
                  have H := H1
                  clear H1
                  have H' := Aside0.mk H
                  clear H
                  go_wp2
                  go_meet
                  case rel => exact ⟨_, (t216), (t217), (t218), (t219), (t221), (t222), (t223), (t224), H', ⟨by have := HJ4.out; have := HJ19.out; have := HJ41.out; have := HJ69.out; first | omega | exact Nat.le_refl _⟩, ⟨by (with_reducible repeat (first | refine blk_drewN ?_ _ | refine blk_drew ?_ | refine blk_alloc ?_ _)); exact BK220.out⟩, ⟨by (with_reducible repeat (first | refine blk_drewN ?_ _ | refine blk_drew ?_ | refine blk_alloc ?_ _)); exact BK225.out⟩, ⟨by repeat (first | (with_reducible first | exact HB.out | apply below_alloc | apply pw_below_drewN | apply below_drew1 | refine below_set ?_ GE220.out | refine below_set ?_ GE225.out) | exact HB.out)⟩⟩
                case rest =>
                 clear HC85
                 try clear c1
                 try clear c2
                 try clear p2
                 try clear c3
                 try clear c4
                 try clear c5
                 try clear c6
                 try clear c7
                 try clear c8
                 try clear c11
                 try clear c13
                 try clear c13b0
                 try clear c13b1
                 try clear c14
                 try clear c16
                 try clear c19
                 try clear c21
                 try clear c21b0
                 try clear c21b1
                 try clear c22
                 try clear c25
                 try clear c27
                 try clear c28
                 try clear c28b0
                 try clear c28b1
                 try clear c28b2
                 try clear c29
                 try clear c32
                 try clear c35
                 try clear c35b0
                 try clear c35b1
                 try clear c36
                 try clear c38
                 try clear c38b0
                 try clear c38b1
                 try clear c39
                 try clear c43
                 try clear c46
                 try clear c46b0
                 try clear c46b1
                 try clear c47
                 try clear c50
                 try clear c52
                 try clear c53
                 try clear c54
                 try clear c55
                 try clear c58
                 try clear c61
                 try clear c63
                 try clear c63b0
                 try clear c63b1
                 try clear c64
                 try clear c66
                 try clear c66b0
                 try clear c66b1
                 try clear c67
                 try clear c71
                 try clear c74
                 try clear c74b0
                 try clear c75
                 try clear c78
                 try clear c78b0
                 try clear c78b1
                 try clear c79
                 try clear c82
                 try clear c86
                 try clear c87
                 try clear hcz12_0
                 try clear hcz12_1
                 try clear hcz12_2
                 try clear hcz12_3
                 try clear hcz15_0
                 try clear hcz15_1
                 try clear hcz15_2
                 try clear hcz15_3
                 try clear hcz17_0
                 try clear hcz17_1
                 try clear hcz17_2
                 try clear hcz17_3
                 try clear hcz18_0
                 try clear hcz18_1
                 try clear hcz18_2
                 try clear hcz18_3
                 try clear hcz23_0
                 try clear hcz23_1
                 try clear hcz23_2
                 try clear hcz23_3
                 try clear hcz24_0
                 try clear hcz24_1
                 try clear hcz24_2
                 try clear hcz24_3
                 try clear hcz26_0
                 try clear hcz26_1
                 try clear hcz26_2
                 try clear hcz26_3
                 try clear hcz30_0
                 try clear hcz30_1
                 try clear hcz30_2
                 try clear hcz30_3
                 try clear hcz31_0
                 try clear hcz31_1
                 try clear hcz31_2
                 try clear hcz31_3
                 try clear hcz33_0
                 try clear hcz33_1
                 try clear hcz33_2
                 try clear hcz33_3
                 try clear hcz34_0
                 try clear hcz34_1
                 try clear hcz34_2
                 try clear hcz34_3
                 try clear hcz37_0
                 try clear hcz37_1
                 try clear hcz37_2
                 try clear hcz37_3
                 try clear hcz40_0
                 try clear hcz40_1
                 try clear hcz40_2
                 try clear hcz40_3
                 try clear hcz41_0
                 try clear hcz41_1
                 try clear hcz41_2
                 try clear hcz41_3
                 try clear hcz44_0
                 try clear hcz44_1
                 try clear hcz44_2
                 try clear hcz44_3
                 try clear hcz45_0
                 try clear hcz45_1
                 try clear hcz45_2
                 try clear hcz45_3
                 try clear hcz48_0
                 try clear hcz48_1
                 try clear hcz48_2
                 try clear hcz48_3
                 try clear hcz49_0
                 try clear hcz49_1
                 try clear hcz49_2
                 try clear hcz49_3
                 try clear hcz51_0
                 try clear hcz51_1
                 try clear hcz51_2
                 try clear hcz51_3
                 try clear hcz56_0
                 try clear hcz56_1
                 try clear hcz56_2
                 try clear hcz56_3
                 try clear hcz57_0
                 try clear hcz57_1
                 try clear hcz57_2
                 try clear hcz57_3
                 try clear hcz59_0
                 try clear hcz59_1
                 try clear hcz59_2
                 try clear hcz59_3
                 try clear hcz60_0
                 try clear hcz60_1
                 try clear hcz60_2
                 try clear hcz60_3
                 try clear hcz62_0
                 try clear hcz62_1
                 try clear hcz62_2
                 try clear hcz62_3
                 try clear hcz65_0
                 try clear hcz65_1
                 try clear hcz65_2
                 try clear hcz65_3
                 try clear hcz68_0
                 try clear hcz68_1
                 try clear hcz68_2
                 try clear hcz68_3
                 try clear hcz69_0
                 try clear hcz69_1
                 try clear hcz69_2
                 try clear hcz69_3
                 try clear hcz72_0
                 try clear hcz72_1
                 try clear hcz72_2
                 try clear hcz72_3
                 try clear hcz73_0
                 try clear hcz73_1
                 try clear hcz73_2
                 try clear hcz73_3
                 try clear hcz76_0
                 try clear hcz76_1
                 try clear hcz76_2
                 try clear hcz76_3
                 try clear hcz77_0
                 try clear hcz77_1
                 try clear hcz77_2
                 try clear hcz77_3
                 try clear hcz80_0
                 try clear hcz80_1
                 try clear hcz80_2
                 try clear hcz80_3
                 try clear hcz81_0
                 try clear hcz81_1
                 try clear hcz81_2
                 try clear hcz81_3
                 try clear hcz83_0
                 try clear hcz83_1
                 try clear hcz83_2
                 try clear hcz83_3
                 try clear hcz84_0
                 try clear hcz84_1
                 try clear hcz84_2
                 try clear hcz84_3
                 try clear hcz88_0
                 try clear hcz88_1
                 try clear hcz88_2
                 try clear hcz88_3
                 try clear hcz89_0
                 try clear hcz89_1
                 try clear hcz89_2
                 try clear hcz89_3
                 try clear hcz8_0
                 try clear hcz8_1
                 try clear hcz8_2
                 try clear hcz8_3
                 try clear hfz12_0
                 try clear hfz12_1
                 try clear hfz12_2
                 try clear hfz12_3
                 try clear hfz15_0
                 try clear hfz15_1
                 try clear hfz15_2
                 try clear hfz15_3
                 try clear hfz17_0
                 try clear hfz17_1
                 try clear hfz17_2
                 try clear hfz17_3
                 try clear hfz18_0
                 try clear hfz18_1
                 try clear hfz18_2
                 try clear hfz18_3
                 try clear hfz23_0
                 try clear hfz23_1
                 try clear hfz23_2
                 try clear hfz23_3
                 try clear hfz24_0
                 try clear hfz24_1
                 try clear hfz24_2
                 try clear hfz24_3
                 try clear hfz26_0
                 try clear hfz26_1
                 try clear hfz26_2
                 try clear hfz26_3
                 try clear hfz30_0
                 try clear hfz30_1
                 try clear hfz30_2
                 try clear hfz30_3
                 try clear hfz31_0
                 try clear hfz31_1
                 try clear hfz31_2
                 try clear hfz31_3
                 try clear hfz33_0
                 try clear hfz33_1
                 try clear hfz33_2
                 try clear hfz33_3
                 try clear hfz34_0
                 try clear hfz34_1
                 try clear hfz34_2
                 try clear hfz34_3
                 try clear hfz37_0
                 try clear hfz37_1
                 try clear hfz37_2
                 try clear hfz37_3
                 try clear hfz40_0
                 try clear hfz40_1
                 try clear hfz40_2
                 try clear hfz40_3
                 try clear hfz41_0
                 try clear hfz41_1
                 try clear hfz41_2
                 try clear hfz41_3
                 try clear hfz44_0
                 try clear hfz44_1
                 try clear hfz44_2
                 try clear hfz44_3
                 try clear hfz45_0
                 try clear hfz45_1
                 try clear hfz45_2
                 try clear hfz45_3
                 try clear hfz48_0
                 try clear hfz48_1
                 try clear hfz48_2
                 try clear hfz48_3
                 try clear hfz49_0
                 try clear hfz49_1
                 try clear hfz49_2
                 try clear hfz49_3
                 try clear hfz51_0
                 try clear hfz51_1
                 try clear hfz51_2
                 try clear hfz51_3
                 try clear hfz56_0
                 try clear hfz56_1
                 try clear hfz56_2
                 try clear hfz56_3
                 try clear hfz57_0
                 try clear hfz57_1
                 try clear hfz57_2
                 try clear hfz57_3
                 try clear hfz59_0
                 try clear hfz59_1
                 try clear hfz59_2
                 try clear hfz59_3
                 try clear hfz60_0
                 try clear hfz60_1
                 try clear hfz60_2
                 try clear hfz60_3
                 try clear hfz62_0
                 try clear hfz62_1
                 try clear hfz62_2
                 try clear hfz62_3
                 try clear hfz65_0
                 try clear hfz65_1
                 try clear hfz65_2
                 try clear hfz65_3
                 try clear hfz68_0
                 try clear hfz68_1
                 try clear hfz68_2
                 try clear hfz68_3
                 try clear hfz69_0
                 try clear hfz69_1
                 try clear hfz69_2
                 try clear hfz69_3
                 try clear hfz72_0
                 try clear hfz72_1
                 try clear hfz72_2
                 try clear hfz72_3
                 try clear hfz73_0
                 try clear hfz73_1
                 try clear hfz73_2
                 try clear hfz73_3
                 try clear hfz76_0
                 try clear hfz76_1
                 try clear hfz76_2
                 try clear hfz76_3
                 try clear hfz77_0
                 try clear hfz77_1
                 try clear hfz77_2
                 try clear hfz77_3
                 try clear hfz80_0
                 try clear hfz80_1
                 try clear hfz80_2
                 try clear hfz80_3
                 try clear hfz81_0
                 try clear hfz81_1
                 try clear hfz81_2
                 try clear hfz81_3
                 try clear hfz83_0
                 try clear hfz83_1
                 try clear hfz83_2
                 try clear hfz83_3
                 try clear hfz84_0
                 try clear hfz84_1
                 try clear hfz84_2
                 try clear hfz84_3
                 try clear hfz88_0
                 try clear hfz88_1
                 try clear hfz88_2
                 try clear hfz88_3
                 try clear hfz89_0
                 try clear hfz89_1
                 try clear hfz89_2
                 try clear hfz89_3
                 try clear hfz8_0
                 try clear hfz8_1
                 try clear hfz8_2
                 try clear hfz8_3
                 try clear p2
                 obtain ⟨kq, x221000_84, x221001_84, x221002_84, x221003_84, x226000_84, x226001_84, x226002_84, x226003_84, HA, HJ84, BK220, BK225, HB⟩ := hcut
                 cases kq with
                 | zero => exact absurd HA.out (by simp [spec_Add.j4])
                 | succ kj84 =>
                  have H := HA.out
                  clear HA
                  simp only [spec_Add.j4] at H
                  have HC90 := Aside0.mk H
                  clear H
                  have hnb91 := NB220_225.out
                  have hnc91 := NB225_220.out
                  have hcz92_0 : wc.cell? ⟨gb220, 0, none⟩ = some (.int .i64 x221000_84) := (blk_cell BK220.out 0).trans rfl
                  have hcz92_1 : wc.cell? ⟨gb220, 1, none⟩ = some (.bool x221001_84) := (blk_cell BK220.out 1).trans rfl
                  have hcz92_2 : wc.cell? ⟨gb220, 2, none⟩ = some (.int .u64 x221002_84) := (blk_cell BK220.out 2).trans rfl
                  have hcz92_3 : wc.cell? ⟨gb220, 3, none⟩ = some (.int .i64 x221003_84) := (blk_cell BK220.out 3).trans rfl
                  have hfz92_0 := blk_frozen BK220.out 0
                  have hfz92_1 := blk_frozen BK220.out 1
                  have hfz92_2 := blk_frozen BK220.out 2
                  have hfz92_3 := blk_frozen BK220.out 3
                  go_upto_block 1 with (fail)
                  go_cut [7, 8] (fun v7 v8 wc => ∃ (kq : Nat) (x7_89 : Int) (x8_89 : Int), v7 = .int .u64 x7_89 ∧ v8 = .int .i64 x8_89 ∧ Aside0 (spec_Add.j6 kq x7_89 x8_89 x221000_84 x221001_84 x221002_84 x221003_84 x226000_84 x226001_84 x226002_84 x226003_84 = some r) ∧ Aside0 (kq ≤ kj84) ∧ Aside0 (wc.heap[gb220]? = some (.cells #[.int .i64 x221000_84, .bool x221001_84, .int .u64 x221002_84, .int .i64 x221003_84] 34 (0, 0))) ∧ Aside0 (wc.heap[gb225]? = some (.cells #[.int .i64 x226000_84, .bool x226001_84, .int .u64 x226002_84, .int .i64 x226003_84] 34 (0, 0))) ∧ Aside0 (Below w.heap.size w wc))
                  case first =>
                   have H := HC90.out
                   clear HC90
                   have H' := Aside0.mk H
                   clear H
                   go_wp2
                   go_loopg [7, 8] kj84 (fun kq v7 v8 w' => ∃ (x7_6 : Int) (x8_6 : Int), v7 = .int .u64 x7_6 ∧ v8 = .int .i64 x8_6 ∧ Aside0 (spec_Add.l0 kq x7_6 x8_6 x221000_84 x221001_84 x221002_84 x221003_84 x226000_84 x226001_84 x226002_84 x226003_84 = some r) ∧ Aside0 (kq ≤ kj84) ∧ Aside0 (w'.heap[gb220]? = some (.cells #[.int .i64 x221000_84, .bool x221001_84, .int .u64 x221002_84, .int .i64 x221003_84] 34 (0, 0))) ∧ Aside0 (w'.heap[gb225]? = some (.cells #[.int .i64 x226000_84, .bool x226001_84, .int .u64 x226002_84, .int .i64 x226003_84] 34 (0, 0))) ∧ Aside0 (Below w.heap.size w w'))
                   case atStart => exact ⟨(x221002_84), (x221003_84), (by first | rfl | (simp; done) | (simp [*]; done)), (by first | rfl | (simp; done) | (simp [*]; done)), H', ⟨Nat.le_refl _⟩, ⟨by (with_reducible repeat (first | refine blk_drewN ?_ _ | refine blk_drew ?_ | refine blk_alloc ?_ _)); exact BK220.out⟩, ⟨by (with_reducible repeat (first | refine blk_drewN ?_ _ | refine blk_drew ?_ | refine blk_alloc ?_ _)); exact BK225.out⟩, ⟨by repeat (first | (with_reducible first | exact HB.out | apply below_alloc | apply pw_below_drewN | apply below_drew1 | refine below_set ?_ GE220.out | refine below_set ?_ GE225.out) | exact HB.out)⟩⟩
                   case round =>
                    clear H'
                    try clear c1
                    try clear c2
                    try clear p2
                    try clear c3
                    try clear c4
                    try clear c5
                    try clear c6
                    try clear c7
                    try clear c8
                    try clear c9
                    try clear c11
                    try clear c13
                    try clear c13b0
                    try clear c13b1
                    try clear c14
                    try clear c16
                    try clear c19
                    try clear c21
                    try clear c21b0
                    try clear c21b1
                    try clear c22
                    try clear c25
                    try clear c27
                    try clear c28
                    try clear c28b0
                    try clear c28b1
                    try clear c28b2
                    try clear c29
                    try clear c32
                    try clear c35
                    try clear c35b0
                    try clear c35b1
                    try clear c36
                    try clear c38
                    try clear c38b0
                    try clear c38b1
                    try clear c39
                    try clear c43
                    try clear c46
                    try clear c46b0
                    try clear c46b1
                    try clear c47
                    try clear c50
                    try clear c52
                    try clear c53
                    try clear c54
                    try clear c55
                    try clear c58
                    try clear c61
                    try clear c63
                    try clear c63b0
                    try clear c63b1
                    try clear c64
                    try clear c66
                    try clear c66b0
                    try clear c66b1
                    try clear c67
                    try clear c71
                    try clear c74
                    try clear c74b0
                    try clear c75
                    try clear c78
                    try clear c78b0
                    try clear c78b1
                    try clear c79
                    try clear c82
                    try clear c86
                    try clear c87
                    try clear c91
                    try clear hcz12_0
                    try clear hcz12_1
                    try clear hcz12_2
                    try clear hcz12_3
                    try clear hcz15_0
                    try clear hcz15_1
                    try clear hcz15_2
                    try clear hcz15_3
                    try clear hcz17_0
                    try clear hcz17_1
                    try clear hcz17_2
                    try clear hcz17_3
                    try clear hcz18_0
                    try clear hcz18_1
                    try clear hcz18_2
                    try clear hcz18_3
                    try clear hcz23_0
                    try clear hcz23_1
                    try clear hcz23_2
                    try clear hcz23_3
                    try clear hcz24_0
                    try clear hcz24_1
                    try clear hcz24_2
                    try clear hcz24_3
                    try clear hcz26_0
                    try clear hcz26_1
                    try clear hcz26_2
                    try clear hcz26_3
                    try clear hcz30_0
                    try clear hcz30_1
                    try clear hcz30_2
                    try clear hcz30_3
                    try clear hcz31_0
                    try clear hcz31_1
                    try clear hcz31_2
                    try clear hcz31_3
                    try clear hcz33_0
                    try clear hcz33_1
                    try clear hcz33_2
                    try clear hcz33_3
                    try clear hcz34_0
                    try clear hcz34_1
                    try clear hcz34_2
                    try clear hcz34_3
                    try clear hcz37_0
                    try clear hcz37_1
                    try clear hcz37_2
                    try clear hcz37_3
                    try clear hcz40_0
                    try clear hcz40_1
                    try clear hcz40_2
                    try clear hcz40_3
                    try clear hcz41_0
                    try clear hcz41_1
                    try clear hcz41_2
                    try clear hcz41_3
                    try clear hcz44_0
                    try clear hcz44_1
                    try clear hcz44_2
                    try clear hcz44_3
                    try clear hcz45_0
                    try clear hcz45_1
                    try clear hcz45_2
                    try clear hcz45_3
                    try clear hcz48_0
                    try clear hcz48_1
                    try clear hcz48_2
                    try clear hcz48_3
                    try clear hcz49_0
                    try clear hcz49_1
                    try clear hcz49_2
                    try clear hcz49_3
                    try clear hcz51_0
                    try clear hcz51_1
                    try clear hcz51_2
                    try clear hcz51_3
                    try clear hcz56_0
                    try clear hcz56_1
                    try clear hcz56_2
                    try clear hcz56_3
                    try clear hcz57_0
                    try clear hcz57_1
                    try clear hcz57_2
                    try clear hcz57_3
                    try clear hcz59_0
                    try clear hcz59_1
                    try clear hcz59_2
                    try clear hcz59_3
                    try clear hcz60_0
                    try clear hcz60_1
                    try clear hcz60_2
                    try clear hcz60_3
                    try clear hcz62_0
                    try clear hcz62_1
                    try clear hcz62_2
                    try clear hcz62_3
                    try clear hcz65_0
                    try clear hcz65_1
                    try clear hcz65_2
                    try clear hcz65_3
                    try clear hcz68_0
                    try clear hcz68_1
                    try clear hcz68_2
                    try clear hcz68_3
                    try clear hcz69_0
                    try clear hcz69_1
                    try clear hcz69_2
                    try clear hcz69_3
                    try clear hcz72_0
                    try clear hcz72_1
                    try clear hcz72_2
                    try clear hcz72_3
                    try clear hcz73_0
                    try clear hcz73_1
                    try clear hcz73_2
                    try clear hcz73_3
                    try clear hcz76_0
                    try clear hcz76_1
                    try clear hcz76_2
                    try clear hcz76_3
                    try clear hcz77_0
                    try clear hcz77_1
                    try clear hcz77_2
                    try clear hcz77_3
                    try clear hcz80_0
                    try clear hcz80_1
                    try clear hcz80_2
                    try clear hcz80_3
                    try clear hcz81_0
                    try clear hcz81_1
                    try clear hcz81_2
                    try clear hcz81_3
                    try clear hcz83_0
                    try clear hcz83_1
                    try clear hcz83_2
                    try clear hcz83_3
                    try clear hcz84_0
                    try clear hcz84_1
                    try clear hcz84_2
                    try clear hcz84_3
                    try clear hcz88_0
                    try clear hcz88_1
                    try clear hcz88_2
                    try clear hcz88_3
                    try clear hcz89_0
                    try clear hcz89_1
                    try clear hcz89_2
                    try clear hcz89_3
                    try clear hcz8_0
                    try clear hcz8_1
                    try clear hcz8_2
                    try clear hcz8_3
                    try clear hcz92_0
                    try clear hcz92_1
                    try clear hcz92_2
                    try clear hcz92_3
                    try clear hfz12_0
                    try clear hfz12_1
                    try clear hfz12_2
                    try clear hfz12_3
                    try clear hfz15_0
                    try clear hfz15_1
                    try clear hfz15_2
                    try clear hfz15_3
                    try clear hfz17_0
                    try clear hfz17_1
                    try clear hfz17_2
                    try clear hfz17_3
                    try clear hfz18_0
                    try clear hfz18_1
                    try clear hfz18_2
                    try clear hfz18_3
                    try clear hfz23_0
                    try clear hfz23_1
                    try clear hfz23_2
                    try clear hfz23_3
                    try clear hfz24_0
                    try clear hfz24_1
                    try clear hfz24_2
                    try clear hfz24_3
                    try clear hfz26_0
                    try clear hfz26_1
                    try clear hfz26_2
                    try clear hfz26_3
                    try clear hfz30_0
                    try clear hfz30_1
                    try clear hfz30_2
                    try clear hfz30_3
                    try clear hfz31_0
                    try clear hfz31_1
                    try clear hfz31_2
                    try clear hfz31_3
                    try clear hfz33_0
                    try clear hfz33_1
                    try clear hfz33_2
                    try clear hfz33_3
                    try clear hfz34_0
                    try clear hfz34_1
                    try clear hfz34_2
                    try clear hfz34_3
                    try clear hfz37_0
                    try clear hfz37_1
                    try clear hfz37_2
                    try clear hfz37_3
                    try clear hfz40_0
                    try clear hfz40_1
                    try clear hfz40_2
                    try clear hfz40_3
                    try clear hfz41_0
                    try clear hfz41_1
                    try clear hfz41_2
                    try clear hfz41_3
                    try clear hfz44_0
                    try clear hfz44_1
                    try clear hfz44_2
                    try clear hfz44_3
                    try clear hfz45_0
                    try clear hfz45_1
                    try clear hfz45_2
                    try clear hfz45_3
                    try clear hfz48_0
                    try clear hfz48_1
                    try clear hfz48_2
                    try clear hfz48_3
                    try clear hfz49_0
                    try clear hfz49_1
                    try clear hfz49_2
                    try clear hfz49_3
                    try clear hfz51_0
                    try clear hfz51_1
                    try clear hfz51_2
                    try clear hfz51_3
                    try clear hfz56_0
                    try clear hfz56_1
                    try clear hfz56_2
                    try clear hfz56_3
                    try clear hfz57_0
                    try clear hfz57_1
                    try clear hfz57_2
                    try clear hfz57_3
                    try clear hfz59_0
                    try clear hfz59_1
                    try clear hfz59_2
                    try clear hfz59_3
                    try clear hfz60_0
                    try clear hfz60_1
                    try clear hfz60_2
                    try clear hfz60_3
                    try clear hfz62_0
                    try clear hfz62_1
                    try clear hfz62_2
                    try clear hfz62_3
                    try clear hfz65_0
                    try clear hfz65_1
                    try clear hfz65_2
                    try clear hfz65_3
                    try clear hfz68_0
                    try clear hfz68_1
                    try clear hfz68_2
                    try clear hfz68_3
                    try clear hfz69_0
                    try clear hfz69_1
                    try clear hfz69_2
                    try clear hfz69_3
                    try clear hfz72_0
                    try clear hfz72_1
                    try clear hfz72_2
                    try clear hfz72_3
                    try clear hfz73_0
                    try clear hfz73_1
                    try clear hfz73_2
                    try clear hfz73_3
                    try clear hfz76_0
                    try clear hfz76_1
                    try clear hfz76_2
                    try clear hfz76_3
                    try clear hfz77_0
                    try clear hfz77_1
                    try clear hfz77_2
                    try clear hfz77_3
                    try clear hfz80_0
                    try clear hfz80_1
                    try clear hfz80_2
                    try clear hfz80_3
                    try clear hfz81_0
                    try clear hfz81_1
                    try clear hfz81_2
                    try clear hfz81_3
                    try clear hfz83_0
                    try clear hfz83_1
                    try clear hfz83_2
                    try clear hfz83_3
                    try clear hfz84_0
                    try clear hfz84_1
                    try clear hfz84_2
                    try clear hfz84_3
                    try clear hfz88_0
                    try clear hfz88_1
                    try clear hfz88_2
                    try clear hfz88_3
                    try clear hfz89_0
                    try clear hfz89_1
                    try clear hfz89_2
                    try clear hfz89_3
                    try clear hfz8_0
                    try clear hfz8_1
                    try clear hfz8_2
                    try clear hfz8_3
                    try clear hfz92_0
                    try clear hfz92_1
                    try clear hfz92_2
                    try clear hfz92_3
                    try clear p2
                    obtain ⟨x7_6, x8_6, rfl, rfl, HA, HK6, BK220, BK225, HB⟩ := hrel
                    cases gk with
                    | zero => exact absurd HA.out (by simp [spec_Add.l0])
                    | succ k6 =>
                     have H := HA.out
                     clear HA
                     simp only [spec_Add.l0] at H
                     replace H := Option.bind_eq_some_iff.mp H
                     obtain ⟨t226, A930, H⟩ := H
                     replace H : (if x7_6 < t226 then (if x8_6 > x226003_84 then (spec_Add.l0 k6 (IntKind.u64.wrap (x7_6 * 2)) (wrap64 (x8_6 - 1)) x221000_84 x221001_84 x221002_84 x221003_84 x226000_84 x226001_84 x226002_84 x226003_84) else (spec_Add.j6 k6 x7_6 x8_6 x221000_84 x221001_84 x221002_84 x221003_84 x226000_84 x226001_84 x226002_84 x226003_84)) else (spec_Add.j6 k6 x7_6 x8_6 x221000_84 x221001_84 x221002_84 x221003_84 x226000_84 x226001_84 x226002_84 x226003_84)) = some r := H
                     have A93 := Aside0.mk A930
                     clear A930
                     by_cases c94 : x7_6 < t226
                     ·rw [if_pos c94] at H
                      have c94b0 : decide (x7_6 < t226) = true := decide_eq_true c94
                      clear c94
                      (first | rw [c94b0] | (simp only [i64_w, i32_w]; rw [c94b0]) | skip)
                      by_cases c95 : x8_6 > x226003_84
                      ·rw [if_pos c95] at H
                       have c95b0 : decide (x226003_84 < x8_6) = true := decide_eq_true c95
                       clear c95
                       have H' := Aside0.mk H
                       clear H
                       go_wp2_with (first | ((with_reducible refine gate_callee (f := 37) rfl ?_); refine goesL_ (some 102) rfl rfl Try.func37 (by kernel_rfl) rfl #[.int .i64 61] rfl (by (try simp only [List.map_toArray, List.map_cons, List.map_nil]); first | done | rfl | (simp only [List.length_drop, List.length_take]; rfl)) ?_; (with_reducible refine (spec_l03Pow.calls k6 61 t226 _ A93.out).mono ?_); rintro e w' ⟨rfl, ⟨nd, rfl⟩⟩; refine ⟨_, rfl, ?_⟩; have hnb96 := NB225_220.out; have hnc96 := NB220_225.out; have hcz97_0 : wr.cell? ⟨gb225, 0, none⟩ = some (.int .i64 x226000_84) := (blk_cell BK225.out 0).trans rfl; have hcz97_1 : wr.cell? ⟨gb225, 1, none⟩ = some (.bool x226001_84) := (blk_cell BK225.out 1).trans rfl; have hcz97_2 : wr.cell? ⟨gb225, 2, none⟩ = some (.int .u64 x226002_84) := (blk_cell BK225.out 2).trans rfl; have hcz97_3 : wr.cell? ⟨gb225, 3, none⟩ = some (.int .i64 x226003_84) := (blk_cell BK225.out 3).trans rfl; have hfz97_0 := blk_frozen BK225.out 0; have hfz97_1 := blk_frozen BK225.out 1; have hfz97_2 := blk_frozen BK225.out 2; have hfz97_3 := blk_frozen BK225.out 3))
                       go_roundg k6
                       case measure => have := HJ4.out; have := HJ19.out; have := HJ41.out; have := HJ69.out; have := HJ84.out; have := HK6.out; omega
                       case rel => exact ⟨(IntKind.u64.wrap (x7_6 * 2)), (wrap64 (x8_6 - 1)), (by first | rfl | (simp; done) | (simp [*]; done)), (by first | rfl | (simp; done) | (simp [*]; done)), H', ⟨by have := HJ4.out; have := HJ19.out; have := HJ41.out; have := HJ69.out; have := HJ84.out; have := HK6.out; omega⟩, ⟨by (with_reducible repeat (first | refine blk_drewN ?_ _ | refine blk_drew ?_ | refine blk_alloc ?_ _)); exact BK220.out⟩, ⟨by (with_reducible repeat (first | refine blk_drewN ?_ _ | refine blk_drew ?_ | refine blk_alloc ?_ _)); exact BK225.out⟩, ⟨by repeat (first | (with_reducible first | exact HB.out | apply below_alloc | apply pw_below_drewN | apply below_drew1 | refine below_set ?_ GE220.out | refine below_set ?_ GE225.out) | exact HB.out)⟩⟩
                      ·rw [if_neg c95] at H
                       have c95b0 : decide (x226003_84 < x8_6) = false := decide_eq_false c95
                       clear c95
                       have H' := Aside0.mk H
                       clear H
                       go_wp2_with (first | ((with_reducible refine gate_callee (f := 37) rfl ?_); refine goesL_ (some 102) rfl rfl Try.func37 (by kernel_rfl) rfl #[.int .i64 61] rfl (by (try simp only [List.map_toArray, List.map_cons, List.map_nil]); first | done | rfl | (simp only [List.length_drop, List.length_take]; rfl)) ?_; (with_reducible refine (spec_l03Pow.calls k6 61 t226 _ A93.out).mono ?_); rintro e w' ⟨rfl, ⟨nd, rfl⟩⟩; refine ⟨_, rfl, ?_⟩; have hnb98 := NB225_220.out; have hnc98 := NB220_225.out; have hcz99_0 : wr.cell? ⟨gb225, 0, none⟩ = some (.int .i64 x226000_84) := (blk_cell BK225.out 0).trans rfl; have hcz99_1 : wr.cell? ⟨gb225, 1, none⟩ = some (.bool x226001_84) := (blk_cell BK225.out 1).trans rfl; have hcz99_2 : wr.cell? ⟨gb225, 2, none⟩ = some (.int .u64 x226002_84) := (blk_cell BK225.out 2).trans rfl; have hcz99_3 : wr.cell? ⟨gb225, 3, none⟩ = some (.int .i64 x226003_84) := (blk_cell BK225.out 3).trans rfl; have hfz99_0 := blk_frozen BK225.out 0; have hfz99_1 := blk_frozen BK225.out 1; have hfz99_2 := blk_frozen BK225.out 2; have hfz99_3 := blk_frozen BK225.out 3))
                       go_meet
                       case rel => exact ⟨_, (x7_6), (x8_6), (by first | rfl | (simp; done) | (simp [*]; done)), (by first | rfl | (simp; done) | (simp [*]; done)), H', ⟨by have := HJ4.out; have := HJ19.out; have := HJ41.out; have := HJ69.out; have := HJ84.out; have := HK6.out; first | omega | exact Nat.le_refl _⟩, ⟨by (with_reducible repeat (first | refine blk_drewN ?_ _ | refine blk_drew ?_ | refine blk_alloc ?_ _)); exact BK220.out⟩, ⟨by (with_reducible repeat (first | refine blk_drewN ?_ _ | refine blk_drew ?_ | refine blk_alloc ?_ _)); exact BK225.out⟩, ⟨by repeat (first | (with_reducible first | exact HB.out | apply below_alloc | apply pw_below_drewN | apply below_drew1 | refine below_set ?_ GE220.out | refine below_set ?_ GE225.out) | exact HB.out)⟩⟩
                     ·rw [if_neg c94] at H
                      have c94b0 : decide (x7_6 < t226) = false := decide_eq_false c94
                      clear c94
                      (first | rw [c94b0] | (simp only [i64_w, i32_w]; rw [c94b0]) | skip)
                      have H' := Aside0.mk H
                      clear H
                      go_wp2_with (first | ((with_reducible refine gate_callee (f := 37) rfl ?_); refine goesL_ (some 102) rfl rfl Try.func37 (by kernel_rfl) rfl #[.int .i64 61] rfl (by (try simp only [List.map_toArray, List.map_cons, List.map_nil]); first | done | rfl | (simp only [List.length_drop, List.length_take]; rfl)) ?_; (with_reducible refine (spec_l03Pow.calls k6 61 t226 _ A93.out).mono ?_); rintro e w' ⟨rfl, ⟨nd, rfl⟩⟩; refine ⟨_, rfl, ?_⟩))
                      go_meet
                      case rel => exact ⟨_, (x7_6), (x8_6), (by first | rfl | (simp; done) | (simp [*]; done)), (by first | rfl | (simp; done) | (simp [*]; done)), H', ⟨by have := HJ4.out; have := HJ19.out; have := HJ41.out; have := HJ69.out; have := HJ84.out; have := HK6.out; first | omega | exact Nat.le_refl _⟩, ⟨by (with_reducible repeat (first | refine blk_drewN ?_ _ | refine blk_drew ?_ | refine blk_alloc ?_ _)); exact BK220.out⟩, ⟨by (with_reducible repeat (first | refine blk_drewN ?_ _ | refine blk_drew ?_ | refine blk_alloc ?_ _)); exact BK225.out⟩, ⟨by repeat (first | (with_reducible first | exact HB.out | apply below_alloc | apply pw_below_drewN | apply below_drew1 | refine below_set ?_ GE220.out | refine below_set ?_ GE225.out) | exact HB.out)⟩⟩
                  case rest =>
                   clear HC90
                   try clear c1
                   try clear c2
                   try clear p2
                   try clear c3
                   try clear c4
                   try clear c5
                   try clear c6
                   try clear p6
                   try clear c7
                   try clear c8
                   try clear c9
                   try clear c11
                   try clear c13
                   try clear c13b0
                   try clear c13b1
                   try clear c14
                   try clear c16
                   try clear c19
                   try clear c21
                   try clear c21b0
                   try clear c21b1
                   try clear c22
                   try clear c25
                   try clear c27
                   try clear c28
                   try clear c28b0
                   try clear c28b1
                   try clear c28b2
                   try clear c29
                   try clear c32
                   try clear c35
                   try clear c35b0
                   try clear c35b1
                   try clear c36
                   try clear c37
                   try clear c38
                   try clear c38b0
                   try clear c38b1
                   try clear c39
                   try clear c43
                   try clear c46
                   try clear c46b0
                   try clear c46b1
                   try clear c47
                   try clear c50
                   try clear c52
                   try clear c53
                   try clear c54
                   try clear c55
                   try clear c58
                   try clear c61
                   try clear c63
                   try clear c63b0
                   try clear c63b1
                   try clear c64
                   try clear p64
                   try clear c66
                   try clear c66b0
                   try clear c66b1
                   try clear c67
                   try clear c71
                   try clear c74
                   try clear c74b0
                   try clear c75
                   try clear c78
                   try clear c78b0
                   try clear c78b1
                   try clear c79
                   try clear c82
                   try clear c86
                   try clear c87
                   try clear c91
                   try clear c94
                   try clear c94b0
                   try clear c95
                   try clear c95b0
                   try clear c96
                   try clear c98
                   try clear hcz12_0
                   try clear hcz12_1
                   try clear hcz12_2
                   try clear hcz12_3
                   try clear hcz15_0
                   try clear hcz15_1
                   try clear hcz15_2
                   try clear hcz15_3
                   try clear hcz17_0
                   try clear hcz17_1
                   try clear hcz17_2
                   try clear hcz17_3
                   try clear hcz18_0
                   try clear hcz18_1
                   try clear hcz18_2
                   try clear hcz18_3
                   try clear hcz23_0
                   try clear hcz23_1
                   try clear hcz23_2
                   try clear hcz23_3
                   try clear hcz24_0
                   try clear hcz24_1
                   try clear hcz24_2
                   try clear hcz24_3
                   try clear hcz26_0
                   try clear hcz26_1
                   try clear hcz26_2
                   try clear hcz26_3
                   try clear hcz30_0
                   try clear hcz30_1
                   try clear hcz30_2
                   try clear hcz30_3
                   try clear hcz31_0
                   try clear hcz31_1
                   try clear hcz31_2
                   try clear hcz31_3
                   try clear hcz33_0
                   try clear hcz33_1
                   try clear hcz33_2
                   try clear hcz33_3
                   try clear hcz34_0
                   try clear hcz34_1
                   try clear hcz34_2
                   try clear hcz34_3
                   try clear hcz37_0
                   try clear hcz37_1
                   try clear hcz37_2
                   try clear hcz37_3
                   try clear hcz40_0
                   try clear hcz40_1
                   try clear hcz40_2
                   try clear hcz40_3
                   try clear hcz41_0
                   try clear hcz41_1
                   try clear hcz41_2
                   try clear hcz41_3
                   try clear hcz44_0
                   try clear hcz44_1
                   try clear hcz44_2
                   try clear hcz44_3
                   try clear hcz45_0
                   try clear hcz45_1
                   try clear hcz45_2
                   try clear hcz45_3
                   try clear hcz48_0
                   try clear hcz48_1
                   try clear hcz48_2
                   try clear hcz48_3
                   try clear hcz49_0
                   try clear hcz49_1
                   try clear hcz49_2
                   try clear hcz49_3
                   try clear hcz51_0
                   try clear hcz51_1
                   try clear hcz51_2
                   try clear hcz51_3
                   try clear hcz56_0
                   try clear hcz56_1
                   try clear hcz56_2
                   try clear hcz56_3
                   try clear hcz57_0
                   try clear hcz57_1
                   try clear hcz57_2
                   try clear hcz57_3
                   try clear hcz59_0
                   try clear hcz59_1
                   try clear hcz59_2
                   try clear hcz59_3
                   try clear hcz60_0
                   try clear hcz60_1
                   try clear hcz60_2
                   try clear hcz60_3
                   try clear hcz62_0
                   try clear hcz62_1
                   try clear hcz62_2
                   try clear hcz62_3
                   try clear hcz65_0
                   try clear hcz65_1
                   try clear hcz65_2
                   try clear hcz65_3
                   try clear hcz68_0
                   try clear hcz68_1
                   try clear hcz68_2
                   try clear hcz68_3
                   try clear hcz69_0
                   try clear hcz69_1
                   try clear hcz69_2
                   try clear hcz69_3
                   try clear hcz72_0
                   try clear hcz72_1
                   try clear hcz72_2
                   try clear hcz72_3
                   try clear hcz73_0
                   try clear hcz73_1
                   try clear hcz73_2
                   try clear hcz73_3
                   try clear hcz76_0
                   try clear hcz76_1
                   try clear hcz76_2
                   try clear hcz76_3
                   try clear hcz77_0
                   try clear hcz77_1
                   try clear hcz77_2
                   try clear hcz77_3
                   try clear hcz80_0
                   try clear hcz80_1
                   try clear hcz80_2
                   try clear hcz80_3
                   try clear hcz81_0
                   try clear hcz81_1
                   try clear hcz81_2
                   try clear hcz81_3
                   try clear hcz83_0
                   try clear hcz83_1
                   try clear hcz83_2
                   try clear hcz83_3
                   try clear hcz84_0
                   try clear hcz84_1
                   try clear hcz84_2
                   try clear hcz84_3
                   try clear hcz88_0
                   try clear hcz88_1
                   try clear hcz88_2
                   try clear hcz88_3
                   try clear hcz89_0
                   try clear hcz89_1
                   try clear hcz89_2
                   try clear hcz89_3
                   try clear hcz8_0
                   try clear hcz8_1
                   try clear hcz8_2
                   try clear hcz8_3
                   try clear hcz92_0
                   try clear hcz92_1
                   try clear hcz92_2
                   try clear hcz92_3
                   try clear hcz97_0
                   try clear hcz97_1
                   try clear hcz97_2
                   try clear hcz97_3
                   try clear hcz99_0
                   try clear hcz99_1
                   try clear hcz99_2
                   try clear hcz99_3
                   try clear hfz12_0
                   try clear hfz12_1
                   try clear hfz12_2
                   try clear hfz12_3
                   try clear hfz15_0
                   try clear hfz15_1
                   try clear hfz15_2
                   try clear hfz15_3
                   try clear hfz17_0
                   try clear hfz17_1
                   try clear hfz17_2
                   try clear hfz17_3
                   try clear hfz18_0
                   try clear hfz18_1
                   try clear hfz18_2
                   try clear hfz18_3
                   try clear hfz23_0
                   try clear hfz23_1
                   try clear hfz23_2
                   try clear hfz23_3
                   try clear hfz24_0
                   try clear hfz24_1
                   try clear hfz24_2
                   try clear hfz24_3
                   try clear hfz26_0
                   try clear hfz26_1
                   try clear hfz26_2
                   try clear hfz26_3
                   try clear hfz30_0
                   try clear hfz30_1
                   try clear hfz30_2
                   try clear hfz30_3
                   try clear hfz31_0
                   try clear hfz31_1
                   try clear hfz31_2
                   try clear hfz31_3
                   try clear hfz33_0
                   try clear hfz33_1
                   try clear hfz33_2
                   try clear hfz33_3
                   try clear hfz34_0
                   try clear hfz34_1
                   try clear hfz34_2
                   try clear hfz34_3
                   try clear hfz37_0
                   try clear hfz37_1
                   try clear hfz37_2
                   try clear hfz37_3
                   try clear hfz40_0
                   try clear hfz40_1
                   try clear hfz40_2
                   try clear hfz40_3
                   try clear hfz41_0
                   try clear hfz41_1
                   try clear hfz41_2
                   try clear hfz41_3
                   try clear hfz44_0
                   try clear hfz44_1
                   try clear hfz44_2
                   try clear hfz44_3
                   try clear hfz45_0
                   try clear hfz45_1
                   try clear hfz45_2
                   try clear hfz45_3
                   try clear hfz48_0
                   try clear hfz48_1
                   try clear hfz48_2
                   try clear hfz48_3
                   try clear hfz49_0
                   try clear hfz49_1
                   try clear hfz49_2
                   try clear hfz49_3
                   try clear hfz51_0
                   try clear hfz51_1
                   try clear hfz51_2
                   try clear hfz51_3
                   try clear hfz56_0
                   try clear hfz56_1
                   try clear hfz56_2
                   try clear hfz56_3
                   try clear hfz57_0
                   try clear hfz57_1
                   try clear hfz57_2
                   try clear hfz57_3
                   try clear hfz59_0
                   try clear hfz59_1
                   try clear hfz59_2
                   try clear hfz59_3
                   try clear hfz60_0
                   try clear hfz60_1
                   try clear hfz60_2
                   try clear hfz60_3
                   try clear hfz62_0
                   try clear hfz62_1
                   try clear hfz62_2
                   try clear hfz62_3
                   try clear hfz65_0
                   try clear hfz65_1
                   try clear hfz65_2
                   try clear hfz65_3
                   try clear hfz68_0
                   try clear hfz68_1
                   try clear hfz68_2
                   try clear hfz68_3
                   try clear hfz69_0
                   try clear hfz69_1
                   try clear hfz69_2
                   try clear hfz69_3
                   try clear hfz72_0
                   try clear hfz72_1
                   try clear hfz72_2
                   try clear hfz72_3
                   try clear hfz73_0
                   try clear hfz73_1
                   try clear hfz73_2
                   try clear hfz73_3
                   try clear hfz76_0
                   try clear hfz76_1
                   try clear hfz76_2
                   try clear hfz76_3
                   try clear hfz77_0
                   try clear hfz77_1
                   try clear hfz77_2
                   try clear hfz77_3
                   try clear hfz80_0
                   try clear hfz80_1
                   try clear hfz80_2
                   try clear hfz80_3
                   try clear hfz81_0
                   try clear hfz81_1
                   try clear hfz81_2
                   try clear hfz81_3
                   try clear hfz83_0
                   try clear hfz83_1
                   try clear hfz83_2
                   try clear hfz83_3
                   try clear hfz84_0
                   try clear hfz84_1
                   try clear hfz84_2
                   try clear hfz84_3
                   try clear hfz88_0
                   try clear hfz88_1
                   try clear hfz88_2
                   try clear hfz88_3
                   try clear hfz89_0
                   try clear hfz89_1
                   try clear hfz89_2
                   try clear hfz89_3
                   try clear hfz8_0
                   try clear hfz8_1
                   try clear hfz8_2
                   try clear hfz8_3
                   try clear hfz92_0
                   try clear hfz92_1
                   try clear hfz92_2
                   try clear hfz92_3
                   try clear hfz97_0
                   try clear hfz97_1
                   try clear hfz97_2
                   try clear hfz97_3
                   try clear hfz99_0
                   try clear hfz99_1
                   try clear hfz99_2
                   try clear hfz99_3
                   try clear p2
                   obtain ⟨kq, x7_89, x8_89, rfl, rfl, HA, HJ89, BK220, BK225, HB⟩ := hcut
                   cases kq with
                   | zero => exact absurd HA.out (by simp [spec_Add.j6])
                   | succ kj89 =>
                    have H := HA.out
                    clear HA
                    simp only [spec_Add.j6] at H
                    have H' := Aside0.mk H
                    clear H
                    have hnb100 := NB225_220.out
                    have hnc100 := NB220_225.out
                    have hcz101_0 : wc.cell? ⟨gb225, 0, none⟩ = some (.int .i64 x226000_84) := (blk_cell BK225.out 0).trans rfl
                    have hcz101_1 : wc.cell? ⟨gb225, 1, none⟩ = some (.bool x226001_84) := (blk_cell BK225.out 1).trans rfl
                    have hcz101_2 : wc.cell? ⟨gb225, 2, none⟩ = some (.int .u64 x226002_84) := (blk_cell BK225.out 2).trans rfl
                    have hcz101_3 : wc.cell? ⟨gb225, 3, none⟩ = some (.int .i64 x226003_84) := (blk_cell BK225.out 3).trans rfl
                    have hfz101_0 := blk_frozen BK225.out 0
                    have hfz101_1 := blk_frozen BK225.out 1
                    have hfz101_2 := blk_frozen BK225.out 2
                    have hfz101_3 := blk_frozen BK225.out 3
                    go_wp2
                    go_loopg [9, 10, 11] kj89 (fun kq v9 v10 v11 w' => ∃ (x9_7 : Int) (x10_7 : Bool) (x11_7 : Int), v9 = .int .u64 x9_7 ∧ v10 = .bool x10_7 ∧ v11 = .int .i64 x11_7 ∧ Aside0 (spec_Add.l1 kq x7_89 x8_89 x9_7 x10_7 x11_7 x221000_84 x221001_84 x221002_84 x221003_84 x226000_84 x226001_84 x226002_84 x226003_84 = some r) ∧ Aside0 (kq ≤ kj89) ∧ Aside0 (w'.heap[gb220]? = some (.cells #[.int .i64 x221000_84, .bool x221001_84, .int .u64 x221002_84, .int .i64 x221003_84] 34 (0, 0))) ∧ Aside0 (w'.heap[gb225]? = some (.cells #[.int .i64 x226000_84, .bool x226001_84, .int .u64 x226002_84, .int .i64 x226003_84] 34 (0, 0))) ∧ Aside0 (Below w.heap.size w w'))
                    case atStart => exact ⟨(x226002_84), (false), (x226003_84), (by first | rfl | (simp; done) | (simp [*]; done)), (by first | rfl | (simp; done) | (simp [*]; done)), (by first | rfl | (simp; done) | (simp [*]; done)), H', ⟨Nat.le_refl _⟩, ⟨by (with_reducible repeat (first | refine blk_drewN ?_ _ | refine blk_drew ?_ | refine blk_alloc ?_ _)); exact BK220.out⟩, ⟨by (with_reducible repeat (first | refine blk_drewN ?_ _ | refine blk_drew ?_ | refine blk_alloc ?_ _)); exact BK225.out⟩, ⟨by repeat (first | (with_reducible first | exact HB.out | apply below_alloc | apply pw_below_drewN | apply below_drew1 | refine below_set ?_ GE220.out | refine below_set ?_ GE225.out) | exact HB.out)⟩⟩
                    case round =>
                     clear H'
                     try clear c1
                     try clear c2
                     try clear p2
                     try clear c3
                     try clear c4
                     try clear c5
                     try clear c6
                     try clear p6
                     try clear c7
                     try clear c8
                     try clear c9
                     try clear c10
                     try clear c11
                     try clear c13
                     try clear c13b0
                     try clear c13b1
                     try clear c14
                     try clear c16
                     try clear c19
                     try clear c21
                     try clear c21b0
                     try clear c21b1
                     try clear c22
                     try clear c25
                     try clear c27
                     try clear c28
                     try clear c28b0
                     try clear c28b1
                     try clear c28b2
                     try clear c29
                     try clear c32
                     try clear c35
                     try clear c35b0
                     try clear c35b1
                     try clear c36
                     try clear c37
                     try clear c38
                     try clear c38b0
                     try clear c38b1
                     try clear c39
                     try clear c43
                     try clear c46
                     try clear c46b0
                     try clear c46b1
                     try clear c47
                     try clear c50
                     try clear c52
                     try clear c53
                     try clear c54
                     try clear c55
                     try clear c58
                     try clear c61
                     try clear c63
                     try clear c63b0
                     try clear c63b1
                     try clear c64
                     try clear p64
                     try clear c66
                     try clear c66b0
                     try clear c66b1
                     try clear c67
                     try clear c71
                     try clear c74
                     try clear c74b0
                     try clear c75
                     try clear c78
                     try clear c78b0
                     try clear c78b1
                     try clear c79
                     try clear c82
                     try clear c86
                     try clear c87
                     try clear c91
                     try clear c94
                     try clear c94b0
                     try clear c95
                     try clear c95b0
                     try clear c96
                     try clear c98
                     try clear c100
                     try clear hcz101_0
                     try clear hcz101_1
                     try clear hcz101_2
                     try clear hcz101_3
                     try clear hcz12_0
                     try clear hcz12_1
                     try clear hcz12_2
                     try clear hcz12_3
                     try clear hcz15_0
                     try clear hcz15_1
                     try clear hcz15_2
                     try clear hcz15_3
                     try clear hcz17_0
                     try clear hcz17_1
                     try clear hcz17_2
                     try clear hcz17_3
                     try clear hcz18_0
                     try clear hcz18_1
                     try clear hcz18_2
                     try clear hcz18_3
                     try clear hcz23_0
                     try clear hcz23_1
                     try clear hcz23_2
                     try clear hcz23_3
                     try clear hcz24_0
                     try clear hcz24_1
                     try clear hcz24_2
                     try clear hcz24_3
                     try clear hcz26_0
                     try clear hcz26_1
                     try clear hcz26_2
                     try clear hcz26_3
                     try clear hcz30_0
                     try clear hcz30_1
                     try clear hcz30_2
                     try clear hcz30_3
                     try clear hcz31_0
                     try clear hcz31_1
                     try clear hcz31_2
                     try clear hcz31_3
                     try clear hcz33_0
                     try clear hcz33_1
                     try clear hcz33_2
                     try clear hcz33_3
                     try clear hcz34_0
                     try clear hcz34_1
                     try clear hcz34_2
                     try clear hcz34_3
                     try clear hcz37_0
                     try clear hcz37_1
                     try clear hcz37_2
                     try clear hcz37_3
                     try clear hcz40_0
                     try clear hcz40_1
                     try clear hcz40_2
                     try clear hcz40_3
                     try clear hcz41_0
                     try clear hcz41_1
                     try clear hcz41_2
                     try clear hcz41_3
                     try clear hcz44_0
                     try clear hcz44_1
                     try clear hcz44_2
                     try clear hcz44_3
                     try clear hcz45_0
                     try clear hcz45_1
                     try clear hcz45_2
                     try clear hcz45_3
                     try clear hcz48_0
                     try clear hcz48_1
                     try clear hcz48_2
                     try clear hcz48_3
                     try clear hcz49_0
                     try clear hcz49_1
                     try clear hcz49_2
                     try clear hcz49_3
                     try clear hcz51_0
                     try clear hcz51_1
                     try clear hcz51_2
                     try clear hcz51_3
                     try clear hcz56_0
                     try clear hcz56_1
                     try clear hcz56_2
                     try clear hcz56_3
                     try clear hcz57_0
                     try clear hcz57_1
                     try clear hcz57_2
                     try clear hcz57_3
                     try clear hcz59_0
                     try clear hcz59_1
                     try clear hcz59_2
                     try clear hcz59_3
                     try clear hcz60_0
                     try clear hcz60_1
                     try clear hcz60_2
                     try clear hcz60_3
                     try clear hcz62_0
                     try clear hcz62_1
                     try clear hcz62_2
                     try clear hcz62_3
                     try clear hcz65_0
                     try clear hcz65_1
                     try clear hcz65_2
                     try clear hcz65_3
                     try clear hcz68_0
                     try clear hcz68_1
                     try clear hcz68_2
                     try clear hcz68_3
                     try clear hcz69_0
                     try clear hcz69_1
                     try clear hcz69_2
                     try clear hcz69_3
                     try clear hcz72_0
                     try clear hcz72_1
                     try clear hcz72_2
                     try clear hcz72_3
                     try clear hcz73_0
                     try clear hcz73_1
                     try clear hcz73_2
                     try clear hcz73_3
                     try clear hcz76_0
                     try clear hcz76_1
                     try clear hcz76_2
                     try clear hcz76_3
                     try clear hcz77_0
                     try clear hcz77_1
                     try clear hcz77_2
                     try clear hcz77_3
                     try clear hcz80_0
                     try clear hcz80_1
                     try clear hcz80_2
                     try clear hcz80_3
                     try clear hcz81_0
                     try clear hcz81_1
                     try clear hcz81_2
                     try clear hcz81_3
                     try clear hcz83_0
                     try clear hcz83_1
                     try clear hcz83_2
                     try clear hcz83_3
                     try clear hcz84_0
                     try clear hcz84_1
                     try clear hcz84_2
                     try clear hcz84_3
                     try clear hcz88_0
                     try clear hcz88_1
                     try clear hcz88_2
                     try clear hcz88_3
                     try clear hcz89_0
                     try clear hcz89_1
                     try clear hcz89_2
                     try clear hcz89_3
                     try clear hcz8_0
                     try clear hcz8_1
                     try clear hcz8_2
                     try clear hcz8_3
                     try clear hcz92_0
                     try clear hcz92_1
                     try clear hcz92_2
                     try clear hcz92_3
                     try clear hcz97_0
                     try clear hcz97_1
                     try clear hcz97_2
                     try clear hcz97_3
                     try clear hcz99_0
                     try clear hcz99_1
                     try clear hcz99_2
                     try clear hcz99_3
                     try clear hfz101_0
                     try clear hfz101_1
                     try clear hfz101_2
                     try clear hfz101_3
                     try clear hfz12_0
                     try clear hfz12_1
                     try clear hfz12_2
                     try clear hfz12_3
                     try clear hfz15_0
                     try clear hfz15_1
                     try clear hfz15_2
                     try clear hfz15_3
                     try clear hfz17_0
                     try clear hfz17_1
                     try clear hfz17_2
                     try clear hfz17_3
                     try clear hfz18_0
                     try clear hfz18_1
                     try clear hfz18_2
                     try clear hfz18_3
                     try clear hfz23_0
                     try clear hfz23_1
                     try clear hfz23_2
                     try clear hfz23_3
                     try clear hfz24_0
                     try clear hfz24_1
                     try clear hfz24_2
                     try clear hfz24_3
                     try clear hfz26_0
                     try clear hfz26_1
                     try clear hfz26_2
                     try clear hfz26_3
                     try clear hfz30_0
                     try clear hfz30_1
                     try clear hfz30_2
                     try clear hfz30_3
                     try clear hfz31_0
                     try clear hfz31_1
                     try clear hfz31_2
                     try clear hfz31_3
                     try clear hfz33_0
                     try clear hfz33_1
                     try clear hfz33_2
                     try clear hfz33_3
                     try clear hfz34_0
                     try clear hfz34_1
                     try clear hfz34_2
                     try clear hfz34_3
                     try clear hfz37_0
                     try clear hfz37_1
                     try clear hfz37_2
                     try clear hfz37_3
                     try clear hfz40_0
                     try clear hfz40_1
                     try clear hfz40_2
                     try clear hfz40_3
                     try clear hfz41_0
                     try clear hfz41_1
                     try clear hfz41_2
                     try clear hfz41_3
                     try clear hfz44_0
                     try clear hfz44_1
                     try clear hfz44_2
                     try clear hfz44_3
                     try clear hfz45_0
                     try clear hfz45_1
                     try clear hfz45_2
                     try clear hfz45_3
                     try clear hfz48_0
                     try clear hfz48_1
                     try clear hfz48_2
                     try clear hfz48_3
                     try clear hfz49_0
                     try clear hfz49_1
                     try clear hfz49_2
                     try clear hfz49_3
                     try clear hfz51_0
                     try clear hfz51_1
                     try clear hfz51_2
                     try clear hfz51_3
                     try clear hfz56_0
                     try clear hfz56_1
                     try clear hfz56_2
                     try clear hfz56_3
                     try clear hfz57_0
                     try clear hfz57_1
                     try clear hfz57_2
                     try clear hfz57_3
                     try clear hfz59_0
                     try clear hfz59_1
                     try clear hfz59_2
                     try clear hfz59_3
                     try clear hfz60_0
                     try clear hfz60_1
                     try clear hfz60_2
                     try clear hfz60_3
                     try clear hfz62_0
                     try clear hfz62_1
                     try clear hfz62_2
                     try clear hfz62_3
                     try clear hfz65_0
                     try clear hfz65_1
                     try clear hfz65_2
                     try clear hfz65_3
                     try clear hfz68_0
                     try clear hfz68_1
                     try clear hfz68_2
                     try clear hfz68_3
                     try clear hfz69_0
                     try clear hfz69_1
                     try clear hfz69_2
                     try clear hfz69_3
                     try clear hfz72_0
                     try clear hfz72_1
                     try clear hfz72_2
                     try clear hfz72_3
                     try clear hfz73_0
                     try clear hfz73_1
                     try clear hfz73_2
                     try clear hfz73_3
                     try clear hfz76_0
                     try clear hfz76_1
                     try clear hfz76_2
                     try clear hfz76_3
                     try clear hfz77_0
                     try clear hfz77_1
                     try clear hfz77_2
                     try clear hfz77_3
                     try clear hfz80_0
                     try clear hfz80_1
                     try clear hfz80_2
                     try clear hfz80_3
                     try clear hfz81_0
                     try clear hfz81_1
                     try clear hfz81_2
                     try clear hfz81_3
                     try clear hfz83_0
                     try clear hfz83_1
                     try clear hfz83_2
                     try clear hfz83_3
                     try clear hfz84_0
                     try clear hfz84_1
                     try clear hfz84_2
                     try clear hfz84_3
                     try clear hfz88_0
                     try clear hfz88_1
                     try clear hfz88_2
                     try clear hfz88_3
                     try clear hfz89_0
                     try clear hfz89_1
                     try clear hfz89_2
                     try clear hfz89_3
                     try clear hfz8_0
                     try clear hfz8_1
                     try clear hfz8_2
                     try clear hfz8_3
                     try clear hfz92_0
                     try clear hfz92_1
                     try clear hfz92_2
                     try clear hfz92_3
                     try clear hfz97_0
                     try clear hfz97_1
                     try clear hfz97_2
                     try clear hfz97_3
                     try clear hfz99_0
                     try clear hfz99_1
                     try clear hfz99_2
                     try clear hfz99_3
                     try clear p2
                     try clear p6
                     try clear p64
                     obtain ⟨x9_7, x10_7, x11_7, rfl, rfl, rfl, HA, HK7, BK220, BK225, HB⟩ := hrel
                     cases gk with
                     | zero => exact absurd HA.out (by simp [spec_Add.l1])
                     | succ k7 =>
                      have H := HA.out
                      clear HA
                      simp only [spec_Add.l1] at H
                      by_cases c102 : x11_7 < x8_89
                      ·rw [if_pos c102] at H
                       have c102b0 : decide (x11_7 < x8_89) = true := decide_eq_true c102
                       clear c102
                       by_cases c103 : x10_7 = true
                       ·subst c103
                        have H1 : (if (IntKind.u64.wrap (Int.tdiv x9_7 2)) = 0 then (spec_Add.l1 k7 x7_89 x8_89 (IntKind.u64.wrap (Int.tdiv x9_7 2)) true (wrap64 (x8_89 + 1)) x221000_84 x221001_84 x221002_84 x221003_84 x226000_84 x226001_84 x226002_84 x226003_84) else (spec_Add.l1 k7 x7_89 x8_89 (IntKind.u64.wrap (Int.tdiv x9_7 2)) true (wrap64 (x11_7 + 1)) x221000_84 x221001_84 x221002_84 x221003_84 x226000_84 x226001_84 x226002_84 x226003_84)) = some r := by rw [if_pos rfl] at H; exact H
                        clear H
                        have H := H1
                        clear H1
                        by_cases c104 : (IntKind.u64.wrap (Int.tdiv x9_7 2)) = 0
                        ·rw [if_pos c104] at H
                         have c104b0 : ((IntKind.u64.wrap (Int.tdiv x9_7 2)) == 0) = true := beq_iff_eq.mpr c104
                         have c104b1 : ((IntKind.u64.wrap (Int.tdiv x9_7 2)) != 0) = false := bne_eq_false_iff_eq.mpr c104
                         clear c104
                         have H' := Aside0.mk H
                         clear H
                         go_wp2
                         go_roundg k7
                         case measure => have := HJ4.out; have := HJ19.out; have := HJ41.out; have := HJ69.out; have := HJ84.out; have := HJ89.out; have := HK7.out; omega
                         case rel => exact ⟨(IntKind.u64.wrap (Int.tdiv x9_7 2)), (true), (wrap64 (x8_89 + 1)), (by first | rfl | (simp; done) | (simp [*]; done)), (by first | rfl | (simp; done) | (simp [*]; done)), (by first | rfl | (simp; done) | (simp [*]; done)), H', ⟨by have := HJ4.out; have := HJ19.out; have := HJ41.out; have := HJ69.out; have := HJ84.out; have := HJ89.out; have := HK7.out; omega⟩, ⟨by (with_reducible repeat (first | refine blk_drewN ?_ _ | refine blk_drew ?_ | refine blk_alloc ?_ _)); exact BK220.out⟩, ⟨by (with_reducible repeat (first | refine blk_drewN ?_ _ | refine blk_drew ?_ | refine blk_alloc ?_ _)); exact BK225.out⟩, ⟨by repeat (first | (with_reducible first | exact HB.out | apply below_alloc | apply pw_below_drewN | apply below_drew1 | refine below_set ?_ GE220.out | refine below_set ?_ GE225.out) | exact HB.out)⟩⟩
                        ·rw [if_neg c104] at H
                         have c104b0 : ((IntKind.u64.wrap (Int.tdiv x9_7 2)) == 0) = false := beq_eq_false_iff_ne.mpr c104
                         have c104b1 : ((IntKind.u64.wrap (Int.tdiv x9_7 2)) != 0) = true := bne_iff_ne.mpr c104
                         have H' := Aside0.mk H
                         clear H
                         go_wp2
                         go_roundg k7
                         case measure => have := HJ4.out; have := HJ19.out; have := HJ41.out; have := HJ69.out; have := HJ84.out; have := HJ89.out; have := HK7.out; omega
                         case rel => exact ⟨(IntKind.u64.wrap (Int.tdiv x9_7 2)), (true), (wrap64 (x11_7 + 1)), (by first | rfl | (simp; done) | (simp [*]; done)), (by first | rfl | (simp; done) | (simp [*]; done)), (by first | rfl | (simp; done) | (simp [*]; done)), H', ⟨by have := HJ4.out; have := HJ19.out; have := HJ41.out; have := HJ69.out; have := HJ84.out; have := HJ89.out; have := HK7.out; omega⟩, ⟨by (with_reducible repeat (first | refine blk_drewN ?_ _ | refine blk_drew ?_ | refine blk_alloc ?_ _)); exact BK220.out⟩, ⟨by (with_reducible repeat (first | refine blk_drewN ?_ _ | refine blk_drew ?_ | refine blk_alloc ?_ _)); exact BK225.out⟩, ⟨by repeat (first | (with_reducible first | exact HB.out | apply below_alloc | apply pw_below_drewN | apply below_drew1 | refine below_set ?_ GE220.out | refine below_set ?_ GE225.out) | exact HB.out)⟩⟩
                       ·replace c103 := Bool.eq_false_iff.mpr c103
                        subst c103
                        have H1 : (if (IntKind.u64.wrap (Int.tdiv x9_7 2)) = 0 then (if (Int.tmod x9_7 2) = 1 then (spec_Add.l1 k7 x7_89 x8_89 (IntKind.u64.wrap (Int.tdiv x9_7 2)) ((Int.tmod x9_7 2) == 1) (wrap64 (x8_89 + 1)) x221000_84 x221001_84 x221002_84 x221003_84 x226000_84 x226001_84 x226002_84 x226003_84) else (spec_Add.l1 k7 x7_89 x8_89 (IntKind.u64.wrap (Int.tdiv x9_7 2)) ((Int.tmod x9_7 2) == 1) (wrap64 (x11_7 + 1)) x221000_84 x221001_84 x221002_84 x221003_84 x226000_84 x226001_84 x226002_84 x226003_84)) else (spec_Add.l1 k7 x7_89 x8_89 (IntKind.u64.wrap (Int.tdiv x9_7 2)) ((Int.tmod x9_7 2) == 1) (wrap64 (x11_7 + 1)) x221000_84 x221001_84 x221002_84 x221003_84 x226000_84 x226001_84 x226002_84 x226003_84)) = some r := by rw [if_neg (show ¬ (false = true) by decide)] at H; exact H
                        clear H
                        have H := H1
                        clear H1
                        by_cases c105 : (IntKind.u64.wrap (Int.tdiv x9_7 2)) = 0
                        ·rw [if_pos c105] at H
                         have c105b0 : ((IntKind.u64.wrap (Int.tdiv x9_7 2)) == 0) = true := beq_iff_eq.mpr c105
                         have c105b1 : ((IntKind.u64.wrap (Int.tdiv x9_7 2)) != 0) = false := bne_eq_false_iff_eq.mpr c105
                         clear c105
                         by_cases c106 : (Int.tmod x9_7 2) = 1
                         ·rw [if_pos c106] at H
                          have c106b0 : ((Int.tmod x9_7 2) == 1) = true := beq_iff_eq.mpr c106
                          have c106b1 : ((Int.tmod x9_7 2) != 1) = false := bne_eq_false_iff_eq.mpr c106
                          clear c106
                          have H' := Aside0.mk H
                          clear H
                          go_wp2
                          go_roundg k7
                          case measure => have := HJ4.out; have := HJ19.out; have := HJ41.out; have := HJ69.out; have := HJ84.out; have := HJ89.out; have := HK7.out; omega
                          case rel => exact ⟨(IntKind.u64.wrap (Int.tdiv x9_7 2)), (((Int.tmod x9_7 2) == 1)), (wrap64 (x8_89 + 1)), (by first | rfl | (simp; done) | (simp [*]; done)), (by first | rfl | (simp; done) | (simp [*]; done)), (by first | rfl | (simp; done) | (simp [*]; done)), H', ⟨by have := HJ4.out; have := HJ19.out; have := HJ41.out; have := HJ69.out; have := HJ84.out; have := HJ89.out; have := HK7.out; omega⟩, ⟨by (with_reducible repeat (first | refine blk_drewN ?_ _ | refine blk_drew ?_ | refine blk_alloc ?_ _)); exact BK220.out⟩, ⟨by (with_reducible repeat (first | refine blk_drewN ?_ _ | refine blk_drew ?_ | refine blk_alloc ?_ _)); exact BK225.out⟩, ⟨by repeat (first | (with_reducible first | exact HB.out | apply below_alloc | apply pw_below_drewN | apply below_drew1 | refine below_set ?_ GE220.out | refine below_set ?_ GE225.out) | exact HB.out)⟩⟩
                         ·rw [if_neg c106] at H
                          have c106b0 : ((Int.tmod x9_7 2) == 1) = false := beq_eq_false_iff_ne.mpr c106
                          have c106b1 : ((Int.tmod x9_7 2) != 1) = true := bne_iff_ne.mpr c106
                          have H' := Aside0.mk H
                          clear H
                          go_wp2
                          go_roundg k7
                          case measure => have := HJ4.out; have := HJ19.out; have := HJ41.out; have := HJ69.out; have := HJ84.out; have := HJ89.out; have := HK7.out; omega
                          case rel => exact ⟨(IntKind.u64.wrap (Int.tdiv x9_7 2)), (((Int.tmod x9_7 2) == 1)), (wrap64 (x11_7 + 1)), (by first | rfl | (simp; done) | (simp [*]; done)), (by first | rfl | (simp; done) | (simp [*]; done)), (by first | rfl | (simp; done) | (simp [*]; done)), H', ⟨by have := HJ4.out; have := HJ19.out; have := HJ41.out; have := HJ69.out; have := HJ84.out; have := HJ89.out; have := HK7.out; omega⟩, ⟨by (with_reducible repeat (first | refine blk_drewN ?_ _ | refine blk_drew ?_ | refine blk_alloc ?_ _)); exact BK220.out⟩, ⟨by (with_reducible repeat (first | refine blk_drewN ?_ _ | refine blk_drew ?_ | refine blk_alloc ?_ _)); exact BK225.out⟩, ⟨by repeat (first | (with_reducible first | exact HB.out | apply below_alloc | apply pw_below_drewN | apply below_drew1 | refine below_set ?_ GE220.out | refine below_set ?_ GE225.out) | exact HB.out)⟩⟩
                        ·rw [if_neg c105] at H
                         have c105b0 : ((IntKind.u64.wrap (Int.tdiv x9_7 2)) == 0) = false := beq_eq_false_iff_ne.mpr c105
                         have c105b1 : ((IntKind.u64.wrap (Int.tdiv x9_7 2)) != 0) = true := bne_iff_ne.mpr c105
                         have H' := Aside0.mk H
                         clear H
                         go_wp2
                         go_roundg k7
                         case measure => have := HJ4.out; have := HJ19.out; have := HJ41.out; have := HJ69.out; have := HJ84.out; have := HJ89.out; have := HK7.out; omega
                         case rel => exact ⟨(IntKind.u64.wrap (Int.tdiv x9_7 2)), (((Int.tmod x9_7 2) == 1)), (wrap64 (x11_7 + 1)), (by first | rfl | (simp; done) | (simp [*]; done)), (by first | rfl | (simp; done) | (simp [*]; done)), (by first | rfl | (simp; done) | (simp [*]; done)), H', ⟨by have := HJ4.out; have := HJ19.out; have := HJ41.out; have := HJ69.out; have := HJ84.out; have := HJ89.out; have := HK7.out; omega⟩, ⟨by (with_reducible repeat (first | refine blk_drewN ?_ _ | refine blk_drew ?_ | refine blk_alloc ?_ _)); exact BK220.out⟩, ⟨by (with_reducible repeat (first | refine blk_drewN ?_ _ | refine blk_drew ?_ | refine blk_alloc ?_ _)); exact BK225.out⟩, ⟨by repeat (first | (with_reducible first | exact HB.out | apply below_alloc | apply pw_below_drewN | apply below_drew1 | refine below_set ?_ GE220.out | refine below_set ?_ GE225.out) | exact HB.out)⟩⟩
                      ·rw [if_neg c102] at H
                       have c102b0 : decide (x11_7 < x8_89) = false := decide_eq_false c102
                       clear c102
                       by_cases c107 : (x221001_84 == x226001_84) = true
                       ·rw [if_pos c107] at H
                        have c107b0 : (x221001_84 == x226001_84) = true := c107
                        (try (have c107b1 : decide (x221001_84 = x226001_84) = true := by simpa using c107))
                        (try (have c107b2 : (x221001_84 == x226001_84) = true := by simpa using c107))
                        clear c107
                        replace H := Option.bind_eq_some_iff.mp H
                        obtain ⟨t227, A1080, H⟩ := H
                        replace H : (some t227) = some r := H
                        have A108 := Aside0.mk A1080
                        clear A1080
                        obtain rfl := Option.some.inj H
                        have hnb109 := NB220_225.out
                        have hnc109 := NB225_220.out
                        have hcz110_0 : wr.cell? ⟨gb220, 0, none⟩ = some (.int .i64 x221000_84) := (blk_cell BK220.out 0).trans rfl
                        have hcz110_1 : wr.cell? ⟨gb220, 1, none⟩ = some (.bool x221001_84) := (blk_cell BK220.out 1).trans rfl
                        have hcz110_2 : wr.cell? ⟨gb220, 2, none⟩ = some (.int .u64 x221002_84) := (blk_cell BK220.out 2).trans rfl
                        have hcz110_3 : wr.cell? ⟨gb220, 3, none⟩ = some (.int .i64 x221003_84) := (blk_cell BK220.out 3).trans rfl
                        have hfz110_0 := blk_frozen BK220.out 0
                        have hfz110_1 := blk_frozen BK220.out 1
                        have hfz110_2 := blk_frozen BK220.out 2
                        have hfz110_3 := blk_frozen BK220.out 3
                        have hcz111_0 : wr.cell? ⟨gb225, 0, none⟩ = some (.int .i64 x226000_84) := (blk_cell BK225.out 0).trans rfl
                        have hcz111_1 : wr.cell? ⟨gb225, 1, none⟩ = some (.bool x226001_84) := (blk_cell BK225.out 1).trans rfl
                        have hcz111_2 : wr.cell? ⟨gb225, 2, none⟩ = some (.int .u64 x226002_84) := (blk_cell BK225.out 2).trans rfl
                        have hcz111_3 : wr.cell? ⟨gb225, 3, none⟩ = some (.int .i64 x226003_84) := (blk_cell BK225.out 3).trans rfl
                        have hfz111_0 := blk_frozen BK225.out 0
                        have hfz111_1 := blk_frozen BK225.out 1
                        have hfz111_2 := blk_frozen BK225.out 2
                        have hfz111_3 := blk_frozen BK225.out 3
                        go_wp2_with (first | ((with_reducible refine gate_callee (f := 42) rfl ?_); refine goesL_ (some 149) rfl rfl Try.func42 (by kernel_rfl) rfl #[.bool x221001_84, .int .u64 (IntKind.u64.wrap (x7_89 + x9_7)), .int .i64 x8_89, .bool x10_7] rfl (by (try simp only [List.map_toArray, List.map_cons, List.map_nil]); first | done | rfl | (simp only [List.length_drop, List.length_take]; rfl)) ?_; (with_reducible refine (spec_RoundTo.calls k7 x221001_84 (IntKind.u64.wrap (x7_89 + x9_7)) x8_89 x10_7 t227 _ A108.out).mono ?_); rintro e w' ⟨rfl, ⟨nd, rfl⟩⟩; refine ⟨_, rfl, ?_⟩))
                        go_ret
                        exact ⟨by first | rfl | (simp; done) | (simp [errW_none, errW_some] <;> rfl) | (simp [*, errW_none, errW_some] <;> rfl) | (simp [bne, List.isEmpty_iff]; done) | (rw [Bool.eq_iff_iff]; simp), by repeat (first | (with_reducible first | exact HB.out | apply below_alloc | apply pw_below_drewN | apply below_drew1 | refine below_set ?_ GE220.out | refine below_set ?_ GE225.out) | exact HB.out)⟩
                       ·rw [if_neg c107] at H
                        have c107b0 : (x221001_84 == x226001_84) = false := by simpa using c107
                        (try (have c107b1 : decide (x221001_84 = x226001_84) = false := by simpa using c107))
                        (try (have c107b2 : (x221001_84 == x226001_84) = false := by simpa using c107))
                        (try (have c107b3 : ¬ (x221001_84 = x226001_84) := by simpa using c107))
                        clear c107
                        have HC112 := Aside0.mk H
                        clear H
                        have hnb113 := NB220_225.out
                        have hnc113 := NB225_220.out
                        have hcz114_0 : wr.cell? ⟨gb220, 0, none⟩ = some (.int .i64 x221000_84) := (blk_cell BK220.out 0).trans rfl
                        have hcz114_1 : wr.cell? ⟨gb220, 1, none⟩ = some (.bool x221001_84) := (blk_cell BK220.out 1).trans rfl
                        have hcz114_2 : wr.cell? ⟨gb220, 2, none⟩ = some (.int .u64 x221002_84) := (blk_cell BK220.out 2).trans rfl
                        have hcz114_3 : wr.cell? ⟨gb220, 3, none⟩ = some (.int .i64 x221003_84) := (blk_cell BK220.out 3).trans rfl
                        have hfz114_0 := blk_frozen BK220.out 0
                        have hfz114_1 := blk_frozen BK220.out 1
                        have hfz114_2 := blk_frozen BK220.out 2
                        have hfz114_3 := blk_frozen BK220.out 3
                        have hcz115_0 : wr.cell? ⟨gb225, 0, none⟩ = some (.int .i64 x226000_84) := (blk_cell BK225.out 0).trans rfl
                        have hcz115_1 : wr.cell? ⟨gb225, 1, none⟩ = some (.bool x226001_84) := (blk_cell BK225.out 1).trans rfl
                        have hcz115_2 : wr.cell? ⟨gb225, 2, none⟩ = some (.int .u64 x226002_84) := (blk_cell BK225.out 2).trans rfl
                        have hcz115_3 : wr.cell? ⟨gb225, 3, none⟩ = some (.int .i64 x226003_84) := (blk_cell BK225.out 3).trans rfl
                        have hfz115_0 := blk_frozen BK225.out 0
                        have hfz115_1 := blk_frozen BK225.out 1
                        have hfz115_2 := blk_frozen BK225.out 2
                        have hfz115_3 := blk_frozen BK225.out 3
                        go_upto_region 39 with (fail)
                        go_cut [156] (fun v156 wc => ∃ (kq : Nat) (x156_111 : Bool), v156 = .bool x156_111 ∧ Aside0 (spec_Add.j8 kq x7_89 x8_89 x9_7 x10_7 x156_111 x221000_84 x221001_84 x221002_84 x221003_84 x226000_84 x226001_84 x226002_84 x226003_84 = some r) ∧ Aside0 (kq ≤ k7) ∧ Aside0 (wc.heap[gb220]? = some (.cells #[.int .i64 x221000_84, .bool x221001_84, .int .u64 x221002_84, .int .i64 x221003_84] 34 (0, 0))) ∧ Aside0 (wc.heap[gb225]? = some (.cells #[.int .i64 x226000_84, .bool x226001_84, .int .u64 x226002_84, .int .i64 x226003_84] 34 (0, 0))) ∧ Aside0 (Below w.heap.size w wc))
                        case first =>
                         have H := HC112.out
                         clear HC112
                         by_cases c116 : x7_89 = x9_7
                         ·rw [if_pos c116] at H
                          have c116b0 : (x7_89 == x9_7) = true := beq_iff_eq.mpr c116
                          have c116b1 : (x7_89 != x9_7) = false := bne_eq_false_iff_eq.mpr c116
                          clear c116
                          (first | rw [c116b0] | (simp only [i64_w, i32_w]; rw [c116b0]) | skip)
                          have H' := Aside0.mk H
                          clear H
                          go_wp2
                          go_meet
                          case rel => exact ⟨_, (!x10_7), (by first | rfl | (simp; done) | (simp [*]; done)), H', ⟨by have := HJ4.out; have := HJ19.out; have := HJ41.out; have := HJ69.out; have := HJ84.out; have := HJ89.out; have := HK7.out; first | omega | exact Nat.le_refl _⟩, ⟨by (with_reducible repeat (first | refine blk_drewN ?_ _ | refine blk_drew ?_ | refine blk_alloc ?_ _)); exact BK220.out⟩, ⟨by (with_reducible repeat (first | refine blk_drewN ?_ _ | refine blk_drew ?_ | refine blk_alloc ?_ _)); exact BK225.out⟩, ⟨by repeat (first | (with_reducible first | exact HB.out | apply below_alloc | apply pw_below_drewN | apply below_drew1 | refine below_set ?_ GE220.out | refine below_set ?_ GE225.out) | exact HB.out)⟩⟩
                         ·rw [if_neg c116] at H
                          have c116b0 : (x7_89 == x9_7) = false := beq_eq_false_iff_ne.mpr c116
                          have c116b1 : (x7_89 != x9_7) = true := bne_iff_ne.mpr c116
                          (first | rw [c116b0] | (simp only [i64_w, i32_w]; rw [c116b0]) | skip)
                          have H' := Aside0.mk H
                          clear H
                          go_wp2
                          go_meet
                          case rel => exact ⟨_, (false), (by first | rfl | (simp; done) | (simp [*]; done)), H', ⟨by have := HJ4.out; have := HJ19.out; have := HJ41.out; have := HJ69.out; have := HJ84.out; have := HJ89.out; have := HK7.out; first | omega | exact Nat.le_refl _⟩, ⟨by (with_reducible repeat (first | refine blk_drewN ?_ _ | refine blk_drew ?_ | refine blk_alloc ?_ _)); exact BK220.out⟩, ⟨by (with_reducible repeat (first | refine blk_drewN ?_ _ | refine blk_drew ?_ | refine blk_alloc ?_ _)); exact BK225.out⟩, ⟨by repeat (first | (with_reducible first | exact HB.out | apply below_alloc | apply pw_below_drewN | apply below_drew1 | refine below_set ?_ GE220.out | refine below_set ?_ GE225.out) | exact HB.out)⟩⟩
                        case rest =>
                         clear HC112
                         try clear c1
                         try clear c2
                         try clear p2
                         try clear c3
                         try clear c4
                         try clear c5
                         try clear c6
                         try clear p6
                         try clear c7
                         try clear c8
                         try clear c9
                         try clear c10
                         try clear c11
                         try clear c13
                         try clear c13b0
                         try clear c13b1
                         try clear c14
                         try clear c16
                         try clear c19
                         try clear c21
                         try clear c21b0
                         try clear c21b1
                         try clear c22
                         try clear c25
                         try clear c27
                         try clear c28
                         try clear c28b0
                         try clear c28b1
                         try clear c28b2
                         try clear c29
                         try clear c32
                         try clear c35
                         try clear c35b0
                         try clear c35b1
                         try clear c36
                         try clear c37
                         try clear c38
                         try clear c38b0
                         try clear c38b1
                         try clear c39
                         try clear c42
                         try clear c43
                         try clear c46
                         try clear c46b0
                         try clear c46b1
                         try clear c47
                         try clear c50
                         try clear c52
                         try clear c53
                         try clear c54
                         try clear c55
                         try clear c58
                         try clear c61
                         try clear c63
                         try clear c63b0
                         try clear c63b1
                         try clear c64
                         try clear p64
                         try clear c66
                         try clear c66b0
                         try clear c66b1
                         try clear c67
                         try clear c71
                         try clear c74
                         try clear c74b0
                         try clear c75
                         try clear c78
                         try clear c78b0
                         try clear c78b1
                         try clear c79
                         try clear c82
                         try clear c86
                         try clear c87
                         try clear c91
                         try clear c94
                         try clear c94b0
                         try clear c95
                         try clear c95b0
                         try clear c96
                         try clear c98
                         try clear c100
                         try clear c102
                         try clear c102b0
                         try clear c103
                         try clear c104
                         try clear c104b0
                         try clear c104b1
                         try clear c105
                         try clear c105b0
                         try clear c105b1
                         try clear c106
                         try clear c106b0
                         try clear c106b1
                         try clear c107
                         try clear c107b0
                         try clear c107b1
                         try clear c107b2
                         try clear c109
                         try clear c113
                         try clear c116
                         try clear c116b0
                         try clear c116b1
                         try clear hcz101_0
                         try clear hcz101_1
                         try clear hcz101_2
                         try clear hcz101_3
                         try clear hcz110_0
                         try clear hcz110_1
                         try clear hcz110_2
                         try clear hcz110_3
                         try clear hcz111_0
                         try clear hcz111_1
                         try clear hcz111_2
                         try clear hcz111_3
                         try clear hcz114_0
                         try clear hcz114_1
                         try clear hcz114_2
                         try clear hcz114_3
                         try clear hcz115_0
                         try clear hcz115_1
                         try clear hcz115_2
                         try clear hcz115_3
                         try clear hcz12_0
                         try clear hcz12_1
                         try clear hcz12_2
                         try clear hcz12_3
                         try clear hcz15_0
                         try clear hcz15_1
                         try clear hcz15_2
                         try clear hcz15_3
                         try clear hcz17_0
                         try clear hcz17_1
                         try clear hcz17_2
                         try clear hcz17_3
                         try clear hcz18_0
                         try clear hcz18_1
                         try clear hcz18_2
                         try clear hcz18_3
                         try clear hcz23_0
                         try clear hcz23_1
                         try clear hcz23_2
                         try clear hcz23_3
                         try clear hcz24_0
                         try clear hcz24_1
                         try clear hcz24_2
                         try clear hcz24_3
                         try clear hcz26_0
                         try clear hcz26_1
                         try clear hcz26_2
                         try clear hcz26_3
                         try clear hcz30_0
                         try clear hcz30_1
                         try clear hcz30_2
                         try clear hcz30_3
                         try clear hcz31_0
                         try clear hcz31_1
                         try clear hcz31_2
                         try clear hcz31_3
                         try clear hcz33_0
                         try clear hcz33_1
                         try clear hcz33_2
                         try clear hcz33_3
                         try clear hcz34_0
                         try clear hcz34_1
                         try clear hcz34_2
                         try clear hcz34_3
                         try clear hcz37_0
                         try clear hcz37_1
                         try clear hcz37_2
                         try clear hcz37_3
                         try clear hcz40_0
                         try clear hcz40_1
                         try clear hcz40_2
                         try clear hcz40_3
                         try clear hcz41_0
                         try clear hcz41_1
                         try clear hcz41_2
                         try clear hcz41_3
                         try clear hcz44_0
                         try clear hcz44_1
                         try clear hcz44_2
                         try clear hcz44_3
                         try clear hcz45_0
                         try clear hcz45_1
                         try clear hcz45_2
                         try clear hcz45_3
                         try clear hcz48_0
                         try clear hcz48_1
                         try clear hcz48_2
                         try clear hcz48_3
                         try clear hcz49_0
                         try clear hcz49_1
                         try clear hcz49_2
                         try clear hcz49_3
                         try clear hcz51_0
                         try clear hcz51_1
                         try clear hcz51_2
                         try clear hcz51_3
                         try clear hcz56_0
                         try clear hcz56_1
                         try clear hcz56_2
                         try clear hcz56_3
                         try clear hcz57_0
                         try clear hcz57_1
                         try clear hcz57_2
                         try clear hcz57_3
                         try clear hcz59_0
                         try clear hcz59_1
                         try clear hcz59_2
                         try clear hcz59_3
                         try clear hcz60_0
                         try clear hcz60_1
                         try clear hcz60_2
                         try clear hcz60_3
                         try clear hcz62_0
                         try clear hcz62_1
                         try clear hcz62_2
                         try clear hcz62_3
                         try clear hcz65_0
                         try clear hcz65_1
                         try clear hcz65_2
                         try clear hcz65_3
                         try clear hcz68_0
                         try clear hcz68_1
                         try clear hcz68_2
                         try clear hcz68_3
                         try clear hcz69_0
                         try clear hcz69_1
                         try clear hcz69_2
                         try clear hcz69_3
                         try clear hcz72_0
                         try clear hcz72_1
                         try clear hcz72_2
                         try clear hcz72_3
                         try clear hcz73_0
                         try clear hcz73_1
                         try clear hcz73_2
                         try clear hcz73_3
                         try clear hcz76_0
                         try clear hcz76_1
                         try clear hcz76_2
                         try clear hcz76_3
                         try clear hcz77_0
                         try clear hcz77_1
                         try clear hcz77_2
                         try clear hcz77_3
                         try clear hcz80_0
                         try clear hcz80_1
                         try clear hcz80_2
                         try clear hcz80_3
                         try clear hcz81_0
                         try clear hcz81_1
                         try clear hcz81_2
                         try clear hcz81_3
                         try clear hcz83_0
                         try clear hcz83_1
                         try clear hcz83_2
                         try clear hcz83_3
                         try clear hcz84_0
                         try clear hcz84_1
                         try clear hcz84_2
                         try clear hcz84_3
                         try clear hcz88_0
                         try clear hcz88_1
                         try clear hcz88_2
                         try clear hcz88_3
                         try clear hcz89_0
                         try clear hcz89_1
                         try clear hcz89_2
                         try clear hcz89_3
                         try clear hcz8_0
                         try clear hcz8_1
                         try clear hcz8_2
                         try clear hcz8_3
                         try clear hcz92_0
                         try clear hcz92_1
                         try clear hcz92_2
                         try clear hcz92_3
                         try clear hcz97_0
                         try clear hcz97_1
                         try clear hcz97_2
                         try clear hcz97_3
                         try clear hcz99_0
                         try clear hcz99_1
                         try clear hcz99_2
                         try clear hcz99_3
                         try clear hfz101_0
                         try clear hfz101_1
                         try clear hfz101_2
                         try clear hfz101_3
                         try clear hfz110_0
                         try clear hfz110_1
                         try clear hfz110_2
                         try clear hfz110_3
                         try clear hfz111_0
                         try clear hfz111_1
                         try clear hfz111_2
                         try clear hfz111_3
                         try clear hfz114_0
                         try clear hfz114_1
                         try clear hfz114_2
                         try clear hfz114_3
                         try clear hfz115_0
                         try clear hfz115_1
                         try clear hfz115_2
                         try clear hfz115_3
                         try clear hfz12_0
                         try clear hfz12_1
                         try clear hfz12_2
                         try clear hfz12_3
                         try clear hfz15_0
                         try clear hfz15_1
                         try clear hfz15_2
                         try clear hfz15_3
                         try clear hfz17_0
                         try clear hfz17_1
                         try clear hfz17_2
                         try clear hfz17_3
                         try clear hfz18_0
                         try clear hfz18_1
                         try clear hfz18_2
                         try clear hfz18_3
                         try clear hfz23_0
                         try clear hfz23_1
                         try clear hfz23_2
                         try clear hfz23_3
                         try clear hfz24_0
                         try clear hfz24_1
                         try clear hfz24_2
                         try clear hfz24_3
                         try clear hfz26_0
                         try clear hfz26_1
                         try clear hfz26_2
                         try clear hfz26_3
                         try clear hfz30_0
                         try clear hfz30_1
                         try clear hfz30_2
                         try clear hfz30_3
                         try clear hfz31_0
                         try clear hfz31_1
                         try clear hfz31_2
                         try clear hfz31_3
                         try clear hfz33_0
                         try clear hfz33_1
                         try clear hfz33_2
                         try clear hfz33_3
                         try clear hfz34_0
                         try clear hfz34_1
                         try clear hfz34_2
                         try clear hfz34_3
                         try clear hfz37_0
                         try clear hfz37_1
                         try clear hfz37_2
                         try clear hfz37_3
                         try clear hfz40_0
                         try clear hfz40_1
                         try clear hfz40_2
                         try clear hfz40_3
                         try clear hfz41_0
                         try clear hfz41_1
                         try clear hfz41_2
                         try clear hfz41_3
                         try clear hfz44_0
                         try clear hfz44_1
                         try clear hfz44_2
                         try clear hfz44_3
                         try clear hfz45_0
                         try clear hfz45_1
                         try clear hfz45_2
                         try clear hfz45_3
                         try clear hfz48_0
                         try clear hfz48_1
                         try clear hfz48_2
                         try clear hfz48_3
                         try clear hfz49_0
                         try clear hfz49_1
                         try clear hfz49_2
                         try clear hfz49_3
                         try clear hfz51_0
                         try clear hfz51_1
                         try clear hfz51_2
                         try clear hfz51_3
                         try clear hfz56_0
                         try clear hfz56_1
                         try clear hfz56_2
                         try clear hfz56_3
                         try clear hfz57_0
                         try clear hfz57_1
                         try clear hfz57_2
                         try clear hfz57_3
                         try clear hfz59_0
                         try clear hfz59_1
                         try clear hfz59_2
                         try clear hfz59_3
                         try clear hfz60_0
                         try clear hfz60_1
                         try clear hfz60_2
                         try clear hfz60_3
                         try clear hfz62_0
                         try clear hfz62_1
                         try clear hfz62_2
                         try clear hfz62_3
                         try clear hfz65_0
                         try clear hfz65_1
                         try clear hfz65_2
                         try clear hfz65_3
                         try clear hfz68_0
                         try clear hfz68_1
                         try clear hfz68_2
                         try clear hfz68_3
                         try clear hfz69_0
                         try clear hfz69_1
                         try clear hfz69_2
                         try clear hfz69_3
                         try clear hfz72_0
                         try clear hfz72_1
                         try clear hfz72_2
                         try clear hfz72_3
                         try clear hfz73_0
                         try clear hfz73_1
                         try clear hfz73_2
                         try clear hfz73_3
                         try clear hfz76_0
                         try clear hfz76_1
                         try clear hfz76_2
                         try clear hfz76_3
                         try clear hfz77_0
                         try clear hfz77_1
                         try clear hfz77_2
                         try clear hfz77_3
                         try clear hfz80_0
                         try clear hfz80_1
                         try clear hfz80_2
                         try clear hfz80_3
                         try clear hfz81_0
                         try clear hfz81_1
                         try clear hfz81_2
                         try clear hfz81_3
                         try clear hfz83_0
                         try clear hfz83_1
                         try clear hfz83_2
                         try clear hfz83_3
                         try clear hfz84_0
                         try clear hfz84_1
                         try clear hfz84_2
                         try clear hfz84_3
                         try clear hfz88_0
                         try clear hfz88_1
                         try clear hfz88_2
                         try clear hfz88_3
                         try clear hfz89_0
                         try clear hfz89_1
                         try clear hfz89_2
                         try clear hfz89_3
                         try clear hfz8_0
                         try clear hfz8_1
                         try clear hfz8_2
                         try clear hfz8_3
                         try clear hfz92_0
                         try clear hfz92_1
                         try clear hfz92_2
                         try clear hfz92_3
                         try clear hfz97_0
                         try clear hfz97_1
                         try clear hfz97_2
                         try clear hfz97_3
                         try clear hfz99_0
                         try clear hfz99_1
                         try clear hfz99_2
                         try clear hfz99_3
                         try clear p2
                         try clear p6
                         try clear p64
                         obtain ⟨kq, x156_111, rfl, HA, HJ111, BK220, BK225, HB⟩ := hcut
                         cases kq with
                         | zero => exact absurd HA.out (by simp [spec_Add.j8])
                         | succ kj111 =>
                          have H := HA.out
                          clear HA
                          simp only [spec_Add.j8] at H
                          by_cases c117 : x156_111 = true
                          ·subst c117
                           have H1 : (some 0) = some r := by rw [if_pos rfl] at H; exact H
                           clear H
                           have H := H1
                           clear H1
                           obtain rfl := Option.some.inj H
                           go_wp2
                           go_ret
                           exact ⟨by first | rfl | (simp; done) | (simp [errW_none, errW_some] <;> rfl) | (simp [*, errW_none, errW_some] <;> rfl) | (simp [bne, List.isEmpty_iff]; done) | (rw [Bool.eq_iff_iff]; simp), by repeat (first | (with_reducible first | exact HB.out | apply below_alloc | apply pw_below_drewN | apply below_drew1 | refine below_set ?_ GE220.out | refine below_set ?_ GE225.out) | exact HB.out)⟩
                          ·replace c117 := Bool.eq_false_iff.mpr c117
                           subst c117
                           have H1 : (if x7_89 < x9_7 then ((spec_RoundTo.f kj111 x226001_84 (IntKind.u64.wrap (x9_7 - x7_89)) x8_89 false).bind fun t228 => (some t228)) else (if x10_7 = true then ((spec_RoundTo.f kj111 x221001_84 (IntKind.u64.wrap ((IntKind.u64.wrap (x7_89 - x9_7)) - 1)) x8_89 true).bind fun t229 => (some t229)) else ((spec_RoundTo.f kj111 x221001_84 (IntKind.u64.wrap (x7_89 - x9_7)) x8_89 false).bind fun t230 => (some t230)))) = some r := by rw [if_neg (show ¬ (false = true) by decide)] at H; exact H
                           clear H
                           have H := H1
                           clear H1
                           by_cases c118 : x7_89 < x9_7
                           ·rw [if_pos c118] at H
                            have c118b0 : decide (x7_89 < x9_7) = true := decide_eq_true c118
                            clear c118
                            replace H := Option.bind_eq_some_iff.mp H
                            obtain ⟨t228, A1190, H⟩ := H
                            replace H : (some t228) = some r := H
                            have A119 := Aside0.mk A1190
                            clear A1190
                            obtain rfl := Option.some.inj H
                            have hnb120 := NB225_220.out
                            have hnc120 := NB220_225.out
                            have hcz121_0 : wc.cell? ⟨gb225, 0, none⟩ = some (.int .i64 x226000_84) := (blk_cell BK225.out 0).trans rfl
                            have hcz121_1 : wc.cell? ⟨gb225, 1, none⟩ = some (.bool x226001_84) := (blk_cell BK225.out 1).trans rfl
                            have hcz121_2 : wc.cell? ⟨gb225, 2, none⟩ = some (.int .u64 x226002_84) := (blk_cell BK225.out 2).trans rfl
                            have hcz121_3 : wc.cell? ⟨gb225, 3, none⟩ = some (.int .i64 x226003_84) := (blk_cell BK225.out 3).trans rfl
                            have hfz121_0 := blk_frozen BK225.out 0
                            have hfz121_1 := blk_frozen BK225.out 1
                            have hfz121_2 := blk_frozen BK225.out 2
                            have hfz121_3 := blk_frozen BK225.out 3
                            go_wp2_with (first | ((with_reducible refine gate_callee (f := 42) rfl ?_); refine goesL_ (some 166) rfl rfl Try.func42 (by kernel_rfl) rfl #[.bool x226001_84, .int .u64 (IntKind.u64.wrap (x9_7 - x7_89)), .int .i64 x8_89, .bool false] rfl (by (try simp only [List.map_toArray, List.map_cons, List.map_nil]); first | done | rfl | (simp only [List.length_drop, List.length_take]; rfl)) ?_; (with_reducible refine (spec_RoundTo.calls kj111 x226001_84 (IntKind.u64.wrap (x9_7 - x7_89)) x8_89 false t228 _ A119.out).mono ?_); rintro e w' ⟨rfl, ⟨nd, rfl⟩⟩; refine ⟨_, rfl, ?_⟩))
                            go_ret
                            exact ⟨by first | rfl | (simp; done) | (simp [errW_none, errW_some] <;> rfl) | (simp [*, errW_none, errW_some] <;> rfl) | (simp [bne, List.isEmpty_iff]; done) | (rw [Bool.eq_iff_iff]; simp), by repeat (first | (with_reducible first | exact HB.out | apply below_alloc | apply pw_below_drewN | apply below_drew1 | refine below_set ?_ GE220.out | refine below_set ?_ GE225.out) | exact HB.out)⟩
                           ·rw [if_neg c118] at H
                            have c118b0 : decide (x7_89 < x9_7) = false := decide_eq_false c118
                            clear c118
                            by_cases c122 : x10_7 = true
                            ·subst c122
                             have H1 : ((spec_RoundTo.f kj111 x221001_84 (IntKind.u64.wrap ((IntKind.u64.wrap (x7_89 - x9_7)) - 1)) x8_89 true).bind fun t229 => (some t229)) = some r := by rw [if_pos rfl] at H; exact H
                             clear H
                             have H := H1
                             clear H1
                             replace H := Option.bind_eq_some_iff.mp H
                             obtain ⟨t229, A1230, H⟩ := H
                             replace H : (some t229) = some r := H
                             have A123 := Aside0.mk A1230
                             clear A1230
                             obtain rfl := Option.some.inj H
                             have hnb124 := NB220_225.out
                             have hnc124 := NB225_220.out
                             have hcz125_0 : wc.cell? ⟨gb220, 0, none⟩ = some (.int .i64 x221000_84) := (blk_cell BK220.out 0).trans rfl
                             have hcz125_1 : wc.cell? ⟨gb220, 1, none⟩ = some (.bool x221001_84) := (blk_cell BK220.out 1).trans rfl
                             have hcz125_2 : wc.cell? ⟨gb220, 2, none⟩ = some (.int .u64 x221002_84) := (blk_cell BK220.out 2).trans rfl
                             have hcz125_3 : wc.cell? ⟨gb220, 3, none⟩ = some (.int .i64 x221003_84) := (blk_cell BK220.out 3).trans rfl
                             have hfz125_0 := blk_frozen BK220.out 0
                             have hfz125_1 := blk_frozen BK220.out 1
                             have hfz125_2 := blk_frozen BK220.out 2
                             have hfz125_3 := blk_frozen BK220.out 3
                             go_wp2_with (first | ((with_reducible refine gate_callee (f := 42) rfl ?_); refine goesL_ (some 175) rfl rfl Try.func42 (by kernel_rfl) rfl #[.bool x221001_84, .int .u64 (IntKind.u64.wrap ((IntKind.u64.wrap (x7_89 - x9_7)) - 1)), .int .i64 x8_89, .bool true] rfl (by (try simp only [List.map_toArray, List.map_cons, List.map_nil]); first | done | rfl | (simp only [List.length_drop, List.length_take]; rfl)) ?_; (with_reducible refine (spec_RoundTo.calls kj111 x221001_84 (IntKind.u64.wrap ((IntKind.u64.wrap (x7_89 - x9_7)) - 1)) x8_89 true t229 _ A123.out).mono ?_); rintro e w' ⟨rfl, ⟨nd, rfl⟩⟩; refine ⟨_, rfl, ?_⟩))
                             go_ret
                             exact ⟨by first | rfl | (simp; done) | (simp [errW_none, errW_some] <;> rfl) | (simp [*, errW_none, errW_some] <;> rfl) | (simp [bne, List.isEmpty_iff]; done) | (rw [Bool.eq_iff_iff]; simp), by repeat (first | (with_reducible first | exact HB.out | apply below_alloc | apply pw_below_drewN | apply below_drew1 | refine below_set ?_ GE220.out | refine below_set ?_ GE225.out) | exact HB.out)⟩
                            ·replace c122 := Bool.eq_false_iff.mpr c122
                             subst c122
                             have H1 : ((spec_RoundTo.f kj111 x221001_84 (IntKind.u64.wrap (x7_89 - x9_7)) x8_89 false).bind fun t230 => (some t230)) = some r := by rw [if_neg (show ¬ (false = true) by decide)] at H; exact H
                             clear H
                             have H := H1
                             clear H1
                             replace H := Option.bind_eq_some_iff.mp H
                             obtain ⟨t230, A1260, H⟩ := H
                             replace H : (some t230) = some r := H
                             have A126 := Aside0.mk A1260
                             clear A1260
                             obtain rfl := Option.some.inj H
                             have hnb127 := NB220_225.out
                             have hnc127 := NB225_220.out
                             have hcz128_0 : wc.cell? ⟨gb220, 0, none⟩ = some (.int .i64 x221000_84) := (blk_cell BK220.out 0).trans rfl
                             have hcz128_1 : wc.cell? ⟨gb220, 1, none⟩ = some (.bool x221001_84) := (blk_cell BK220.out 1).trans rfl
                             have hcz128_2 : wc.cell? ⟨gb220, 2, none⟩ = some (.int .u64 x221002_84) := (blk_cell BK220.out 2).trans rfl
                             have hcz128_3 : wc.cell? ⟨gb220, 3, none⟩ = some (.int .i64 x221003_84) := (blk_cell BK220.out 3).trans rfl
                             have hfz128_0 := blk_frozen BK220.out 0
                             have hfz128_1 := blk_frozen BK220.out 1
                             have hfz128_2 := blk_frozen BK220.out 2
                             have hfz128_3 := blk_frozen BK220.out 3
                             go_wp2_with (first | ((with_reducible refine gate_callee (f := 42) rfl ?_); refine goesL_ (some 182) rfl rfl Try.func42 (by kernel_rfl) rfl #[.bool x221001_84, .int .u64 (IntKind.u64.wrap (x7_89 - x9_7)), .int .i64 x8_89, .bool false] rfl (by (try simp only [List.map_toArray, List.map_cons, List.map_nil]); first | done | rfl | (simp only [List.length_drop, List.length_take]; rfl)) ?_; (with_reducible refine (spec_RoundTo.calls kj111 x221001_84 (IntKind.u64.wrap (x7_89 - x9_7)) x8_89 false t230 _ A126.out).mono ?_); rintro e w' ⟨rfl, ⟨nd, rfl⟩⟩; refine ⟨_, rfl, ?_⟩))
                             go_ret
                             exact ⟨by first | rfl | (simp; done) | (simp [errW_none, errW_some] <;> rfl) | (simp [*, errW_none, errW_some] <;> rfl) | (simp [bne, List.isEmpty_iff]; done) | (rw [Bool.eq_iff_iff]; simp), by repeat (first | (with_reducible first | exact HB.out | apply below_alloc | apply pw_below_drewN | apply below_drew1 | refine below_set ?_ GE220.out | refine below_set ?_ GE225.out) | exact HB.out)⟩
end Go.Proofs.Ytokhgodcamhibaa.QFnExactDoBinary
end
