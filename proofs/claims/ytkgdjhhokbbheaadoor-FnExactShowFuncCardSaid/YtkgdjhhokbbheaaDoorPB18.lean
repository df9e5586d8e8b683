/- Part 18 of the proof: general lemmas, contracts of functions, walks. No condition of its own. -/
import Derived.Deep.RegionWith
import Derived.Deep.RegionHeld3
import Derived.IntWalk
import Derived.Test.YtkgdjhhokbbheaaDoorPB12
import Derived.Test.YtkgdjhhokbbheaaDoorPB17
section
namespace Go.Proofs.YtkgdjhhokbbheaaDoor.Show
open Go.RowKit Go.Proofs.YtkgdjhhokbbheaaDoorW.PrintWords Go.Proofs.YtkgdjhhokbbheaaDoorW.PrintMore Go.Proofs.YtkgdjhhokbbheaaDoor.Law Go.Proofs.YtkgdjhhokbbheaaDoor Go.Proofs.YtkgdjhhokbbheaaDoor.QFnExactShowIns
set_option linter.unusedVariables false
set_option linter.unusedSimpArgs false
set_option autoImplicit false
theorem in_s (op : Int) : spec_l01In.f op 1 19 = some (decide (1 ≤ op ∧ op ≤ 19)) := by
  unfold spec_l01In.f
  by_cases h : op ≥ 1
  · rw [if_pos h]; by_cases h2 : op ≤ 19
    · rw [decide_eq_true h2, decide_eq_true ⟨h, h2⟩]
    · rw [decide_eq_false h2, decide_eq_false (fun e => h2 e.2)]
  · rw [if_neg h, decide_eq_false (fun e => h e.1)]
theorem cDecS (n : Int) (h : -9223372036854775808 ≤ n ∧ n ≤ 9223372036854775807) (w : World) : Calls Tryd.prog 15 #[.int .i64 n] w fun e w' => e = .returned (.string (dec n)) ∧ Below w.heap.size w w' := spec_Decimal.calls 40 n _ w (spec_dec 40 (by omega) n h.1 h.2)
theorem cWords (w : World) : Calls Tryd.prog 14 #[] w fun e w' => ∃ v, e = .returned v ∧ Kd.R Kd.string 9 w' w.heap.size (fun _ => True) v wordsL ∧ Below w.heap.size w w' := spec_l20Words.calls wordsL w rfl
set_option maxHeartbeats 8000000 in
set_option maxRecDepth 100000 in
theorem cShowS (op a b : Int) (w : World) (ha : -9223372036854775808 ≤ a ∧ a ≤ 9223372036854775807) (hb : -9223372036854775808 ≤ b ∧ b ≤ 9223372036854775807) :
    Calls Tryd.prog 5 #[.agg #[.int .i64 op, .int .i64 a, .int .i64 b]] w fun e w' => e = .returned (.string (showB op a b)) ∧ Below w.heap.size w w' := by
  have hu := Tryd.underlying25
  have HA := Aside0.mk ha; have HB := Aside0.mk hb; clear ha hb
  have M0 := Aside0.mk ((Mem.start w).allocAt rfl #[.int .i64 op, .int .i64 a, .int .i64 b] 25)
  by_cases h : 1 ≤ op ∧ op ≤ 19
  rotate_left
  · have HD := Aside0.mk (decide_eq_false h : decide (1 ≤ op ∧ op ≤ 19) = false)
    have HR := Aside0.mk (show showB op a b = (⟨#[]⟩ : ByteArray) by unfold showB; rw [if_neg h])
    clear h
    go_enter Tryd.func5, Tryd.ntmps5
    go_wp2_with fail
    refine (spec_l01In.calls _ _ _ _ _ (in_s op)).mono ?_; rintro e w1 ⟨rfl, ⟨⟨n1, rfl⟩⟩⟩; rw [HD.out]
    go_wp2
    go_ret
    exact ⟨by rw [HR.out]; rfl, (M0.out.draw _).below⟩
  have HD := Aside0.mk (decide_eq_true h : decide (1 ≤ op ∧ op ≤ 19) = true)
  have i0 : (0 : Int) ≤ op := by omega
  have i1 : op < (20 : Int) := by omega
  have i2 : (0 : Int) ≤ op - 1 := by omega
  have i3 : op - 1 < (19 : Int) := by omega
  have i4 : IntKind.i64.wrap (op - 1) = op - 1 := IntWalk.i64_in _ (by omega)
  have i5 : wrap64 (op - 1) = op - 1 := by unfold wrap64; omega
  have i6 : (1 : Int) ≤ op := by omega
  have i7 : op ≤ (19 : Int) := by omega
  obtain ⟨x, hx⟩ : ∃ x, x = rdOf ByteArray.empty wordsL op := ⟨_, rfl⟩
  have HXS := Aside0.mk (show x.size ≤ 7 by rw [hx]; exact word_size op)
  have HX := Aside0.mk hx; clear hx
  by_cases k10 : op = 10
  · skip
    have HR := Aside0.mk (show showB op a b = x by rw [HX.out]; unfold showB; rw [if_pos h, if_pos (by omega)])
    have q10 : (op == 10) = true := by simpa using k10
    clear h k10
    go_enter Tryd.func5, Tryd.ntmps5
    go_wp2_with fail
    refine (spec_l01In.calls _ _ _ _ _ (in_s op)).mono ?_; rintro e w1 ⟨rfl, ⟨⟨n1, rfl⟩⟩⟩; rw [HD.out]
    have M1 := Aside0.mk (M0.out.draw n1)
    go_upto_region 3 with fail
    go_cut [3] (fun v wx => v = .string x ∧ Aside0 (Mem w wx [Hold.box w.heap.size #[.int .i64 op, .int .i64 a, .int .i64 b] 25]))
    case first =>
      go_region_with (go_at_call 14; refine (cWords _).mono ?_; rintro e w2 ⟨v2, rfl, hr, hb⟩; have M2 := Aside0.mk (show Mem w w2 [Hold.box w.heap.size #[.int .i64 op, .int .i64 a, .int .i64 b] 25] from by first | exact M1.out.step hb | exact M1.out.drew.step hb | exact M1.out.drew.drew.step hb); obtain ⟨v2A, v2c, rfl, hc, hC⟩ := Kd.R_reads hr; obtain ⟨wa, hwa, hxw⟩ := string_at hC op.toNat (by have : wordsL.length = 20 := rfl; omega); cases hwa; rw [show el ByteArray.empty wordsL op.toNat = x from HX.out.symm] at hxw; rw [show wordsL.length = 20 from rfl]; have z := M2.out.box (.head _); clear hr hb hc hC)
      all_goals go_wp2
      all_goals go_meet
      all_goals exact ⟨rfl, by first | exact M2 | exact ⟨M2.out.drew⟩ | exact ⟨M2.out.drew.drew⟩ | exact ⟨M2.out.draw _⟩⟩
    case rest =>
    clear M1
    obtain ⟨rfl, M2⟩ := hcut
    have z := M2.out.box (.head _)
    go_wp2
    go_ret
    exact ⟨by rw [HR.out]; rfl, by first | exact M2.out.below | exact (M2.out.draw _).below | exact M2.out.drew.below⟩
  by_cases k11 : op = 11
  · skip
    have HR := Aside0.mk (show showB op a b = x by rw [HX.out]; unfold showB; rw [if_pos h, if_pos (by omega)])
    have q10 : (op == 10) = false := by simpa using k10
    have q11 : (op == 11) = true := by simpa using k11
    clear h k10 k11
    go_enter Tryd.func5, Tryd.ntmps5
    go_wp2_with fail
    refine (spec_l01In.calls _ _ _ _ _ (in_s op)).mono ?_; rintro e w1 ⟨rfl, ⟨⟨n1, rfl⟩⟩⟩; rw [HD.out]
    have M1 := Aside0.mk (M0.out.draw n1)
    go_upto_region 3 with fail
    go_cut [3] (fun v wx => v = .string x ∧ Aside0 (Mem w wx [Hold.box w.heap.size #[.int .i64 op, .int .i64 a, .int .i64 b] 25]))
    case first =>
      go_region_with (go_at_call 14; refine (cWords _).mono ?_; rintro e w2 ⟨v2, rfl, hr, hb⟩; have M2 := Aside0.mk (show Mem w w2 [Hold.box w.heap.size #[.int .i64 op, .int .i64 a, .int .i64 b] 25] from by first | exact M1.out.step hb | exact M1.out.drew.step hb | exact M1.out.drew.drew.step hb); obtain ⟨v2A, v2c, rfl, hc, hC⟩ := Kd.R_reads hr; obtain ⟨wa, hwa, hxw⟩ := string_at hC op.toNat (by have : wordsL.length = 20 := rfl; omega); cases hwa; rw [show el ByteArray.empty wordsL op.toNat = x from HX.out.symm] at hxw; rw [show wordsL.length = 20 from rfl]; have z := M2.out.box (.head _); clear hr hb hc hC)
      all_goals go_wp2
      all_goals go_meet
      all_goals exact ⟨rfl, by first | exact M2 | exact ⟨M2.out.drew⟩ | exact ⟨M2.out.drew.drew⟩ | exact ⟨M2.out.draw _⟩⟩
    case rest =>
    clear M1
    obtain ⟨rfl, M2⟩ := hcut
    have z := M2.out.box (.head _)
    go_wp2
    go_ret
    exact ⟨by rw [HR.out]; rfl, by first | exact M2.out.below | exact (M2.out.draw _).below | exact M2.out.drew.below⟩
  by_cases k17 : op = 17
  · skip
    have HR := Aside0.mk (show showB op a b = x by rw [HX.out]; unfold showB; rw [if_pos h, if_pos (by omega)])
    have q10 : (op == 10) = false := by simpa using k10
    have q11 : (op == 11) = false := by simpa using k11
    have q17 : (op == 17) = true := by simpa using k17
    clear h k10 k11 k17
    go_enter Tryd.func5, Tryd.ntmps5
    go_wp2_with fail
    refine (spec_l01In.calls _ _ _ _ _ (in_s op)).mono ?_; rintro e w1 ⟨rfl, ⟨⟨n1, rfl⟩⟩⟩; rw [HD.out]
    have M1 := Aside0.mk (M0.out.draw n1)
    go_upto_region 3 with fail
    go_cut [3] (fun v wx => v = .string x ∧ Aside0 (Mem w wx [Hold.box w.heap.size #[.int .i64 op, .int .i64 a, .int .i64 b] 25]))
    case first =>
      go_region_with (go_at_call 14; refine (cWords _).mono ?_; rintro e w2 ⟨v2, rfl, hr, hb⟩; have M2 := Aside0.mk (show Mem w w2 [Hold.box w.heap.size #[.int .i64 op, .int .i64 a, .int .i64 b] 25] from by first | exact M1.out.step hb | exact M1.out.drew.step hb | exact M1.out.drew.drew.step hb); obtain ⟨v2A, v2c, rfl, hc, hC⟩ := Kd.R_reads hr; obtain ⟨wa, hwa, hxw⟩ := string_at hC op.toNat (by have : wordsL.length = 20 := rfl; omega); cases hwa; rw [show el ByteArray.empty wordsL op.toNat = x from HX.out.symm] at hxw; rw [show wordsL.length = 20 from rfl]; have z := M2.out.box (.head _); clear hr hb hc hC)
      all_goals go_wp2
      all_goals go_meet
      all_goals exact ⟨rfl, by first | exact M2 | exact ⟨M2.out.drew⟩ | exact ⟨M2.out.drew.drew⟩ | exact ⟨M2.out.draw _⟩⟩
    case rest =>
    clear M1
    obtain ⟨rfl, M2⟩ := hcut
    have z := M2.out.box (.head _)
    go_wp2
    go_ret
    exact ⟨by rw [HR.out]; rfl, by first | exact M2.out.below | exact (M2.out.draw _).below | exact M2.out.drew.below⟩
  by_cases k18 : op = 18
  · skip
    have HR := Aside0.mk (show showB op a b = x by rw [HX.out]; unfold showB; rw [if_pos h, if_pos (by omega)])
    have q10 : (op == 10) = false := by simpa using k10
    have q11 : (op == 11) = false := by simpa using k11
    have q17 : (op == 17) = false := by simpa using k17
    have q18 : (op == 18) = true := by simpa using k18
    clear h k10 k11 k17 k18
    go_enter Tryd.func5, Tryd.ntmps5
    go_wp2_with fail
    refine (spec_l01In.calls _ _ _ _ _ (in_s op)).mono ?_; rintro e w1 ⟨rfl, ⟨⟨n1, rfl⟩⟩⟩; rw [HD.out]
    have M1 := Aside0.mk (M0.out.draw n1)
    go_upto_region 3 with fail
    go_cut [3] (fun v wx => v = .string x ∧ Aside0 (Mem w wx [Hold.box w.heap.size #[.int .i64 op, .int .i64 a, .int .i64 b] 25]))
    case first =>
      go_region_with (go_at_call 14; refine (cWords _).mono ?_; rintro e w2 ⟨v2, rfl, hr, hb⟩; have M2 := Aside0.mk (show Mem w w2 [Hold.box w.heap.size #[.int .i64 op, .int .i64 a, .int .i64 b] 25] from by first | exact M1.out.step hb | exact M1.out.drew.step hb | exact M1.out.drew.drew.step hb); obtain ⟨v2A, v2c, rfl, hc, hC⟩ := Kd.R_reads hr; obtain ⟨wa, hwa, hxw⟩ := string_at hC op.toNat (by have : wordsL.length = 20 := rfl; omega); cases hwa; rw [show el ByteArray.empty wordsL op.toNat = x from HX.out.symm] at hxw; rw [show wordsL.length = 20 from rfl]; have z := M2.out.box (.head _); clear hr hb hc hC)
      all_goals go_wp2
      all_goals go_meet
      all_goals exact ⟨rfl, by first | exact M2 | exact ⟨M2.out.drew⟩ | exact ⟨M2.out.drew.drew⟩ | exact ⟨M2.out.draw _⟩⟩
    case rest =>
    clear M1
    obtain ⟨rfl, M2⟩ := hcut
    have z := M2.out.box (.head _)
    go_wp2
    go_ret
    exact ⟨by rw [HR.out]; rfl, by first | exact M2.out.below | exact (M2.out.draw _).below | exact M2.out.drew.below⟩
  by_cases k19 : op = 19
  · skip
    have HR := Aside0.mk (show showB op a b = x by rw [HX.out]; unfold showB; rw [if_pos h, if_pos (by omega)])
    have q10 : (op == 10) = false := by simpa using k10
    have q11 : (op == 11) = false := by simpa using k11
    have q17 : (op == 17) = false := by simpa using k17
    have q18 : (op == 18) = false := by simpa using k18
    have q19 : (op == 19) = true := by simpa using k19
    clear h k10 k11 k17 k18 k19
    go_enter Tryd.func5, Tryd.ntmps5
    go_wp2_with fail
    refine (spec_l01In.calls _ _ _ _ _ (in_s op)).mono ?_; rintro e w1 ⟨rfl, ⟨⟨n1, rfl⟩⟩⟩; rw [HD.out]
    have M1 := Aside0.mk (M0.out.draw n1)
    go_upto_region 3 with fail
    go_cut [3] (fun v wx => v = .string x ∧ Aside0 (Mem w wx [Hold.box w.heap.size #[.int .i64 op, .int .i64 a, .int .i64 b] 25]))
    case first =>
      go_region_with (go_at_call 14; refine (cWords _).mono ?_; rintro e w2 ⟨v2, rfl, hr, hb⟩; have M2 := Aside0.mk (show Mem w w2 [Hold.box w.heap.size #[.int .i64 op, .int .i64 a, .int .i64 b] 25] from by first | exact M1.out.step hb | exact M1.out.drew.step hb | exact M1.out.drew.drew.step hb); obtain ⟨v2A, v2c, rfl, hc, hC⟩ := Kd.R_reads hr; obtain ⟨wa, hwa, hxw⟩ := string_at hC op.toNat (by have : wordsL.length = 20 := rfl; omega); cases hwa; rw [show el ByteArray.empty wordsL op.toNat = x from HX.out.symm] at hxw; rw [show wordsL.length = 20 from rfl]; have z := M2.out.box (.head _); clear hr hb hc hC)
      all_goals go_wp2
      all_goals go_meet
      all_goals exact ⟨rfl, by first | exact M2 | exact ⟨M2.out.drew⟩ | exact ⟨M2.out.drew.drew⟩ | exact ⟨M2.out.draw _⟩⟩
    case rest =>
    clear M1
    obtain ⟨rfl, M2⟩ := hcut
    have z := M2.out.box (.head _)
    go_wp2
    go_ret
    exact ⟨by rw [HR.out]; rfl, by first | exact M2.out.below | exact (M2.out.draw _).below | exact M2.out.drew.below⟩
  by_cases k9 : op = 9
  · skip
    have HR := Aside0.mk (show showB op a b = ((((x ++ (⟨#[32]⟩ : ByteArray)) ++ dec a) ++ (⟨#[32]⟩ : ByteArray)) ++ dec b) by rw [HX.out]; unfold showB; rw [if_pos h, if_neg (by omega), if_pos (by omega)])
    have q10 : (op == 10) = false := by simpa using k10
    have q11 : (op == 11) = false := by simpa using k11
    have q17 : (op == 17) = false := by simpa using k17
    have q18 : (op == 18) = false := by simpa using k18
    have q19 : (op == 19) = false := by simpa using k19
    have q9 : (op == 9) = true := by simpa using k9
    clear h k10 k11 k17 k18 k19 k9
    have s1 : x.size + 1 ≤ 9223372036854775807 := by have := HXS.out; omega
    have s2 : x.size + 1 + (dec a).size ≤ 9223372036854775807 := by have := HXS.out; have := dec_size a; omega
    have s3 : x.size + 1 + (dec a).size + 1 ≤ 9223372036854775807 := by have := HXS.out; have := dec_size a; omega
    have s4 : x.size + 1 + (dec a).size + 1 + (dec b).size ≤ 9223372036854775807 := by have := HXS.out; have := dec_size a; have := dec_size b; omega
    have s1b := eq_true s1; have s1c := eq_false (Nat.not_lt.2 s1); have s1d := decide_eq_true s1
    have s2b := eq_true s2; have s2c := eq_false (Nat.not_lt.2 s2); have s2d := decide_eq_true s2
    have s3b := eq_true s3; have s3c := eq_false (Nat.not_lt.2 s3); have s3d := decide_eq_true s3
    have s4b := eq_true s4; have s4c := eq_false (Nat.not_lt.2 s4); have s4d := decide_eq_true s4
    go_enter Tryd.func5, Tryd.ntmps5
    go_wp2_with fail
    refine (spec_l01In.calls _ _ _ _ _ (in_s op)).mono ?_; rintro e w1 ⟨rfl, ⟨⟨n1, rfl⟩⟩⟩; rw [HD.out]
    have M1 := Aside0.mk (M0.out.draw n1)
    go_upto_region 3 with fail
    go_cut [3] (fun v wx => v = .string x ∧ Aside0 (Mem w wx [Hold.box w.heap.size #[.int .i64 op, .int .i64 a, .int .i64 b] 25]))
    case first =>
      go_region_with (go_at_call 14; refine (cWords _).mono ?_; rintro e w2 ⟨v2, rfl, hr, hb⟩; have M2 := Aside0.mk (show Mem w w2 [Hold.box w.heap.size #[.int .i64 op, .int .i64 a, .int .i64 b] 25] from by first | exact M1.out.step hb | exact M1.out.drew.step hb | exact M1.out.drew.drew.step hb); obtain ⟨v2A, v2c, rfl, hc, hC⟩ := Kd.R_reads hr; obtain ⟨wa, hwa, hxw⟩ := string_at hC op.toNat (by have : wordsL.length = 20 := rfl; omega); cases hwa; rw [show el ByteArray.empty wordsL op.toNat = x from HX.out.symm] at hxw; rw [show wordsL.length = 20 from rfl]; have z := M2.out.box (.head _); clear hr hb hc hC)
      all_goals go_wp2
      all_goals go_meet
      all_goals exact ⟨rfl, by first | exact M2 | exact ⟨M2.out.drew⟩ | exact ⟨M2.out.drew.drew⟩ | exact ⟨M2.out.draw _⟩⟩
    case rest =>
    clear M1
    obtain ⟨rfl, M2⟩ := hcut
    have z := M2.out.box (.head _)
    go_wp2_with fail
    clear z
    go_region_held3 (fun W => (∀ o, W.cell? ⟨w.heap.size, o, none⟩ = (#[.int .i64 op, .int .i64 a, .int .i64 b] : Array Value)[o]?) ∧ Mem w W [Hold.box w.heap.size #[.int .i64 op, .int .i64 a, .int .i64 b] 25]) (first | exact ⟨M2.out.drew.box (.head _), M2.out.drew⟩ | exact ⟨M4.out.box (.head _), M4.out⟩ | exact ⟨M5.out.box (.head _), M5.out⟩) (first | (go_at_call_of 15 a; refine (cDecS a HA.out _).mono ?_; rintro e w4 ⟨rfl, hb⟩; have M4 := Aside0.mk (M2.out.drew.step hb); clear hb) | (go_at_call_of 15 b; refine (cDecS b HB.out _).mono ?_; rintro e w5 ⟨rfl, hb⟩; have M5 := Aside0.mk (M4.out.step hb); clear hb))
    go_wp2
    go_ret
    exact ⟨by rw [HR.out]; rfl, by first | exact M5.out.below | exact (M5.out.draw _).below⟩
  by_cases k16 : op = 16
  · skip
    have HR := Aside0.mk (show showB op a b = ((((x ++ (⟨#[32]⟩ : ByteArray)) ++ dec a) ++ (⟨#[32]⟩ : ByteArray)) ++ dec b) by rw [HX.out]; unfold showB; rw [if_pos h, if_neg (by omega), if_pos (by omega)])
    have q10 : (op == 10) = false := by simpa using k10
    have q11 : (op == 11) = false := by simpa using k11
    have q17 : (op == 17) = false := by simpa using k17
    have q18 : (op == 18) = false := by simpa using k18
    have q19 : (op == 19) = false := by simpa using k19
    have q9 : (op == 9) = false := by simpa using k9
    have q16 : (op == 16) = true := by simpa using k16
    clear h k10 k11 k17 k18 k19 k9 k16
    have s1 : x.size + 1 ≤ 9223372036854775807 := by have := HXS.out; omega
    have s2 : x.size + 1 + (dec a).size ≤ 9223372036854775807 := by have := HXS.out; have := dec_size a; omega
    have s3 : x.size + 1 + (dec a).size + 1 ≤ 9223372036854775807 := by have := HXS.out; have := dec_size a; omega
    have s4 : x.size + 1 + (dec a).size + 1 + (dec b).size ≤ 9223372036854775807 := by have := HXS.out; have := dec_size a; have := dec_size b; omega
    have s1b := eq_true s1; have s1c := eq_false (Nat.not_lt.2 s1); have s1d := decide_eq_true s1
    have s2b := eq_true s2; have s2c := eq_false (Nat.not_lt.2 s2); have s2d := decide_eq_true s2
    have s3b := eq_true s3; have s3c := eq_false (Nat.not_lt.2 s3); have s3d := decide_eq_true s3
    have s4b := eq_true s4; have s4c := eq_false (Nat.not_lt.2 s4); have s4d := decide_eq_true s4
    go_enter Tryd.func5, Tryd.ntmps5
    go_wp2_with fail
    refine (spec_l01In.calls _ _ _ _ _ (in_s op)).mono ?_; rintro e w1 ⟨rfl, ⟨⟨n1, rfl⟩⟩⟩; rw [HD.out]
    have M1 := Aside0.mk (M0.out.draw n1)
    go_upto_region 3 with fail
    go_cut [3] (fun v wx => v = .string x ∧ Aside0 (Mem w wx [Hold.box w.heap.size #[.int .i64 op, .int .i64 a, .int .i64 b] 25]))
    case first =>
      go_region_with (go_at_call 14; refine (cWords _).mono ?_; rintro e w2 ⟨v2, rfl, hr, hb⟩; have M2 := Aside0.mk (show Mem w w2 [Hold.box w.heap.size #[.int .i64 op, .int .i64 a, .int .i64 b] 25] from by first | exact M1.out.step hb | exact M1.out.drew.step hb | exact M1.out.drew.drew.step hb); obtain ⟨v2A, v2c, rfl, hc, hC⟩ := Kd.R_reads hr; obtain ⟨wa, hwa, hxw⟩ := string_at hC op.toNat (by have : wordsL.length = 20 := rfl; omega); cases hwa; rw [show el ByteArray.empty wordsL op.toNat = x from HX.out.symm] at hxw; rw [show wordsL.length = 20 from rfl]; have z := M2.out.box (.head _); clear hr hb hc hC)
      all_goals go_wp2
      all_goals go_meet
      all_goals exact ⟨rfl, by first | exact M2 | exact ⟨M2.out.drew⟩ | exact ⟨M2.out.drew.drew⟩ | exact ⟨M2.out.draw _⟩⟩
    case rest =>
    clear M1
    obtain ⟨rfl, M2⟩ := hcut
    have z := M2.out.box (.head _)
    go_wp2_with fail
    clear z
    go_region_held3 (fun W => (∀ o, W.cell? ⟨w.heap.size, o, none⟩ = (#[.int .i64 op, .int .i64 a, .int .i64 b] : Array Value)[o]?) ∧ Mem w W [Hold.box w.heap.size #[.int .i64 op, .int .i64 a, .int .i64 b] 25]) (first | exact ⟨M2.out.drew.box (.head _), M2.out.drew⟩ | exact ⟨M4.out.box (.head _), M4.out⟩ | exact ⟨M5.out.box (.head _), M5.out⟩) (first | (go_at_call_of 15 a; refine (cDecS a HA.out _).mono ?_; rintro e w4 ⟨rfl, hb⟩; have M4 := Aside0.mk (M2.out.drew.step hb); clear hb) | (go_at_call_of 15 b; refine (cDecS b HB.out _).mono ?_; rintro e w5 ⟨rfl, hb⟩; have M5 := Aside0.mk (M4.out.step hb); clear hb))
    go_wp2
    go_ret
    exact ⟨by rw [HR.out]; rfl, by first | exact M5.out.below | exact (M5.out.draw _).below⟩
  have HR := Aside0.mk (show showB op a b = ((x ++ (⟨#[32]⟩ : ByteArray)) ++ dec a) by rw [HX.out]; unfold showB; rw [if_pos h, if_neg (by omega), if_neg (by omega)])
  have q10 : (op == 10) = false := by simpa using k10
  have q11 : (op == 11) = false := by simpa using k11
  have q17 : (op == 17) = false := by simpa using k17
  have q18 : (op == 18) = false := by simpa using k18
  have q19 : (op == 19) = false := by simpa using k19
  have q9 : (op == 9) = false := by simpa using k9
  have q16 : (op == 16) = false := by simpa using k16
  clear h k10 k11 k17 k18 k19 k9 k16
  have s1 : x.size + 1 ≤ 9223372036854775807 := by have := HXS.out; omega
  have s2 : x.size + 1 + (dec a).size ≤ 9223372036854775807 := by have := HXS.out; have := dec_size a; omega
  go_enter Tryd.func5, Tryd.ntmps5
  go_wp2_with fail
  refine (spec_l01In.calls _ _ _ _ _ (in_s op)).mono ?_; rintro e w1 ⟨rfl, ⟨⟨n1, rfl⟩⟩⟩; rw [HD.out]
  have M1 := Aside0.mk (M0.out.draw n1)
  go_upto_region 3 with fail
  go_cut [3] (fun v wx => v = .string x ∧ Aside0 (Mem w wx [Hold.box w.heap.size #[.int .i64 op, .int .i64 a, .int .i64 b] 25]))
  case first =>
    go_region_with (go_at_call 14; refine (cWords _).mono ?_; rintro e w2 ⟨v2, rfl, hr, hb⟩; have M2 := Aside0.mk (show Mem w w2 [Hold.box w.heap.size #[.int .i64 op, .int .i64 a, .int .i64 b] 25] from by first | exact M1.out.step hb | exact M1.out.drew.step hb | exact M1.out.drew.drew.step hb); obtain ⟨v2A, v2c, rfl, hc, hC⟩ := Kd.R_reads hr; obtain ⟨wa, hwa, hxw⟩ := string_at hC op.toNat (by have : wordsL.length = 20 := rfl; omega); cases hwa; rw [show el ByteArray.empty wordsL op.toNat = x from HX.out.symm] at hxw; rw [show wordsL.length = 20 from rfl]; have z := M2.out.box (.head _); clear hr hb hc hC)
    all_goals go_wp2
    all_goals go_meet
    all_goals exact ⟨rfl, by first | exact M2 | exact ⟨M2.out.drew⟩ | exact ⟨M2.out.drew.drew⟩ | exact ⟨M2.out.draw _⟩⟩
  case rest =>
  clear M1
  obtain ⟨rfl, M2⟩ := hcut
  have z := M2.out.box (.head _)
  go_wp2_with fail
  clear z
  refine (cDecS a HA.out _).mono ?_; rintro e w4 ⟨rfl, hb⟩
  have M4 := Aside0.mk (M2.out.step hb); clear hb
  have z := M4.out.box (.head _)
  go_wp2
  go_ret
  exact ⟨by rw [HR.out]; rfl, by first | exact M4.out.below | exact (M4.out.draw _).below⟩
end Go.Proofs.YtkgdjhhokbbheaaDoor.Show
end
