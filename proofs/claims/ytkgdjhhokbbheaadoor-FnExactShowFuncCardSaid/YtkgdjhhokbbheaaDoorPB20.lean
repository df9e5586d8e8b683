/- Part 20 of the proof: general lemmas, contracts of functions, walks. No condition of its own. -/
import Derived.Deep.RegionWith
import Derived.Deep.RegionHeld3
import Derived.IntWalk
import Derived.Test.YtkgdjhhokbbheaaDoorPB12
import Derived.Test.YtkgdjhhokbbheaaDoorPB17
import Derived.Test.YtkgdjhhokbbheaaDoorPB19
section
namespace Go.Proofs.YtkgdjhhokbbheaaDoor.Show
open Go.RowKit Go.Proofs.YtkgdjhhokbbheaaDoorW.PrintWords Go.Proofs.YtkgdjhhokbbheaaDoorW.PrintMore Go.Proofs.YtkgdjhhokbbheaaDoor.Law Go.Proofs.YtkgdjhhokbbheaaDoor Go.Proofs.YtkgdjhhokbbheaaDoor.QFnExactShowIns
set_option linter.unusedVariables false
set_option linter.unusedSimpArgs false
set_option autoImplicit false
theorem in_i (op : Int) : impl_within.f op 1 19 = some (decide (1 ≤ op ∧ op ≤ 19)) := by
  unfold impl_within.f
  by_cases h : op ≥ 1
  · rw [if_pos h]; by_cases h2 : op ≤ 19
    · rw [decide_eq_true h2, decide_eq_true ⟨h, h2⟩]
    · rw [decide_eq_false h2, decide_eq_false (fun e => h2 e.2)]
  · rw [if_neg h, decide_eq_false (fun e => h e.1)]
theorem cDecI (n : Int) (h : -9223372036854775808 ≤ n ∧ n ≤ 9223372036854775807) (w : World) : Calls Tryd.prog 18 #[.int .i64 n] w fun e w' => e = .returned (.string (dec n)) ∧ Below w.heap.size w w' := impl_Decimal.calls 40 n _ w (impl_dec n h.1 h.2)
def opsText : ByteArray := ⟨#[99, 111, 110, 115, 116, 32, 103, 101, 116, 32, 112, 117, 116, 32, 110, 101, 119, 99, 101, 108, 108, 32, 103, 101, 116, 99, 101, 108, 108, 32, 112, 117, 116, 99, 101, 108, 108, 32, 103, 101, 116, 99, 97, 112, 32, 112, 117, 116, 99, 97, 112, 32, 98, 105, 110, 97, 114, 121, 32, 110, 111, 116, 32, 109, 105, 110, 117, 115, 32, 106, 117, 109, 112, 32, 105, 102, 110, 111, 116, 32, 105, 102, 32, 102, 117, 110, 32, 99, 97, 108, 108, 32, 114, 101, 116, 117, 114, 110, 32, 116, 104, 114, 111, 119, 32, 112, 114, 105, 110, 116]⟩
theorem ops_fields : (Lib.fields opsText.data.toList).map (fun l => (⟨l.toArray⟩ : ByteArray)) = wordsL.drop 1 := by decide +kernel
theorem ops_ascii : ∀ (j : Nat) b, opsText.data.toList[j]? = some b → b.toNat < 128 := by
  have h : ∀ x ∈ opsText.data.toList, x.toNat < 128 := by decide +kernel
  exact fun j b hb => h b (List.mem_of_getElem? hb)
theorem cFields (w : World) (htab : Lib.TabIs Tryd.prog w "strings.asciiSpace" .u8 Lib.asciiSpaceTab) :
    Calls Tryd.prog 17 #[.string opsText] w fun e w' => e = .returned (.slice (some ⟨w.heap.size, 0, none⟩) 19 19) ∧ w' = w.alloc (.cells ((wordsL.drop 1).map Value.string).toArray 9) := by
  have h := Tryd.strings_Fields opsText w (by decide +kernel) ops_ascii htab
  have e1 : (Lib.fields opsText.data.toList).map (fun l => Value.string ⟨l.toArray⟩) = (wordsL.drop 1).map Value.string := by rw [← ops_fields, List.map_map]; rfl
  have e2 : (Lib.fields opsText.data.toList).length = 19 := by have h2 := congrArg List.length ops_fields; rw [List.length_map] at h2; rw [h2]; rfl
  rw [e1, e2] at h
  exact h
theorem word_cell {op : Int} (h0 : (0 : Int) ≤ op - 1) (h1 : op - 1 < (19 : Int)) : ((wordsL.drop 1).map Value.string).toArray[(op - 1).toNat]? = some (.string (rdOf ByteArray.empty wordsL op)) := by
  obtain ⟨j, rfl⟩ : ∃ j : Nat, op = (j : Int) + 1 := ⟨(op - 1).toNat, by omega⟩
  have hj : j < 19 := by omega
  have e1 : ((j : Int) + 1 - 1).toNat = j := by omega
  have e2 : ((j : Int) + 1).toNat = j + 1 := by omega
  have hl : j + 1 < wordsL.length := by have : wordsL.length = 20 := rfl; omega
  rw [e1]
  unfold rdOf
  rw [e2, List.getD_eq_getElem?_getD]
  simp [List.getElem?_drop, Nat.add_comm 1 j, List.getElem?_eq_getElem hl]
theorem word_at {W : World} {op : Int} {g : Nat} (hg : W.heap.size = g) (h0 : (0 : Int) ≤ op - 1) (h1 : op - 1 < (19 : Int)) : (W.alloc (.cells ((wordsL.drop 1).map Value.string).toArray 9)).cell? ⟨g, (op - 1).toNat, none⟩ = some (.string (rdOf ByteArray.empty wordsL op)) := by
  subst hg
  exact ((Mem.start W).alloc ((wordsL.drop 1).map Value.string).toArray 9).box (.head _) _ |>.trans (word_cell h0 h1)
set_option maxHeartbeats 8000000 in
set_option maxRecDepth 100000 in
theorem cShowI (op a b : Int) (w : World) (ha : -9223372036854775808 ≤ a ∧ a ≤ 9223372036854775807) (hb : -9223372036854775808 ≤ b ∧ b ≤ 9223372036854775807) (htab : ∀ W : World, Below w.heap.size w W → Lib.TabIs Tryd.prog W "strings.asciiSpace" .u8 Lib.asciiSpaceTab) :
    Calls Tryd.prog 7 #[.agg #[.int .i64 op, .int .i64 a, .int .i64 b]] w fun e w' => e = .returned (.string (showB op a b)) ∧ Below w.heap.size w w' := by
  have hu := Tryd.underlying25
  have HA := Aside0.mk ha; have HB := Aside0.mk hb; clear ha hb
  have HT := Aside0.mk htab; clear htab
  have M0 := Aside0.mk ((Mem.start w).allocAt rfl #[.int .i64 op, .int .i64 a, .int .i64 b] 25)
  by_cases h : 1 ≤ op ∧ op ≤ 19
  rotate_left
  · have HD := Aside0.mk (decide_eq_false h : decide (1 ≤ op ∧ op ≤ 19) = false)
    have HR := Aside0.mk (show showB op a b = (⟨#[]⟩ : ByteArray) by unfold showB; rw [if_neg h])
    clear h
    go_enter Tryd.func7, Tryd.ntmps7
    go_wp2_with fail
    refine (impl_within.calls _ _ _ _ _ (in_i op)).mono ?_; rintro e w1 ⟨rfl, ⟨⟨n1, rfl⟩⟩⟩; rw [HD.out]
    go_wp2
    go_ret
    exact ⟨by rw [HR.out]; rfl, (M0.out.draw _).below⟩
  have HD := Aside0.mk (decide_eq_true h : decide (1 ≤ op ∧ op ≤ 19) = true)
  have i0 : (0 : Int) ≤ op := by omega
  have i1 : op < (20 : Int) := by omega
  have i2 : (0 : Int) ≤ op - 1 := by omega
  have i3 : op - 1 < (19 : Int) := by omega
  have i4 : IntKind.i64.wrap (op - 1) = op - 1 := IntWalk.i64_in _ (by omega)
  have i5 : wrap64 (op - 1) = op - 1 := by unfold wrap64; omega
  have i6 : (1 : Int) ≤ op := by omega
  have i7 : op ≤ (19 : Int) := by omega
  obtain ⟨x, hx⟩ : ∃ x, x = rdOf ByteArray.empty wordsL op := ⟨_, rfl⟩
  have HXS := Aside0.mk (show x.size ≤ 7 by rw [hx]; exact word_size op)
  have HX := Aside0.mk hx; clear hx
  by_cases k10 : op = 10
  · skip
    have HR := Aside0.mk (show showB op a b = x by rw [HX.out]; unfold showB; rw [if_pos h, if_pos (by omega)])
    have q10 : (op == 10) = true := by simpa using k10
    clear h k10
    go_enter Tryd.func7, Tryd.ntmps7
    go_wp2_with fail
    refine (impl_within.calls _ _ _ _ _ (in_i op)).mono ?_; rintro e w1 ⟨rfl, ⟨⟨n1, rfl⟩⟩⟩; rw [HD.out]
    have M1 := Aside0.mk (M0.out.draw n1)
    go_upto_region 3 with fail
    go_cut [3] (fun v wx => v = .string x ∧ Aside0 (Mem w wx [Hold.box w.heap.size #[.int .i64 op, .int .i64 a, .int .i64 b] 25]))
    case first =>
      go_region_with (go_at_call 17; refine (cFields _ (HT.out _ (by first | exact M1.out.below | exact M1.out.drew.below | exact M1.out.drew.drew.below))).mono ?_; rintro e w2 ⟨rfl, hw2⟩; have M2 := Aside0.mk (show Mem w w2 [Hold.box w.heap.size #[.int .i64 op, .int .i64 a, .int .i64 b] 25] from by rw [hw2]; first | exact (M1.out.alloc _ _).drop | exact (M1.out.drew.alloc _ _).drop | exact (M1.out.drew.drew.alloc _ _).drop); have hxw : w2.cell? ⟨w.heap.size + 1, op.toNat - 1, none⟩ = some (.string x) := (by rw [hw2, show op.toNat - 1 = (op - 1).toNat by omega, HX.out]; exact word_at (by simp) i2 i3); have z := M2.out.box (.head _); clear hw2)
      all_goals go_wp2
      all_goals go_meet
      all_goals exact ⟨rfl, by first | exact M2 | exact ⟨M2.out.drew⟩ | exact ⟨M2.out.drew.drew⟩ | exact ⟨M2.out.draw _⟩⟩
    case rest =>
    clear M1
    obtain ⟨rfl, M2⟩ := hcut
    have z := M2.out.box (.head _)
    go_wp2
    go_ret
    exact ⟨by rw [HR.out]; rfl, by first | exact M2.out.below | exact (M2.out.draw _).below | exact M2.out.drew.below⟩
  by_cases k11 : op = 11
  · skip
    have HR := Aside0.mk (show showB op a b = x by rw [HX.out]; unfold showB; rw [if_pos h, if_pos (by omega)])
    have q10 : (op == 10) = false := by simpa using k10
    have q11 : (op == 11) = true := by simpa using k11
    clear h k10 k11
    go_enter Tryd.func7, Tryd.ntmps7
    go_wp2_with fail
    refine (impl_within.calls _ _ _ _ _ (in_i op)).mono ?_; rintro e w1 ⟨rfl, ⟨⟨n1, rfl⟩⟩⟩; rw [HD.out]
    have M1 := Aside0.mk (M0.out.draw n1)
    go_upto_region 3 with fail
    go_cut [3] (fun v wx => v = .string x ∧ Aside0 (Mem w wx [Hold.box w.heap.size #[.int .i64 op, .int .i64 a, .int .i64 b] 25]))
    case first =>
      go_region_with (go_at_call 17; refine (cFields _ (HT.out _ (by first | exact M1.out.below | exact M1.out.drew.below | exact M1.out.drew.drew.below))).mono ?_; rintro e w2 ⟨rfl, hw2⟩; have M2 := Aside0.mk (show Mem w w2 [Hold.box w.heap.size #[.int .i64 op, .int .i64 a, .int .i64 b] 25] from by rw [hw2]; first | exact (M1.out.alloc _ _).drop | exact (M1.out.drew.alloc _ _).drop | exact (M1.out.drew.drew.alloc _ _).drop); have hxw : w2.cell? ⟨w.heap.size + 1, op.toNat - 1, none⟩ = some (.string x) := (by rw [hw2, show op.toNat - 1 = (op - 1).toNat by omega, HX.out]; exact word_at (by simp) i2 i3); have z := M2.out.box (.head _); clear hw2)
      all_goals go_wp2
      all_goals go_meet
      all_goals exact ⟨rfl, by first | exact M2 | exact ⟨M2.out.drew⟩ | exact ⟨M2.out.drew.drew⟩ | exact ⟨M2.out.draw _⟩⟩
    case rest =>
    clear M1
    obtain ⟨rfl, M2⟩ := hcut
    have z := M2.out.box (.head _)
    go_wp2
    go_ret
    exact ⟨by rw [HR.out]; rfl, by first | exact M2.out.below | exact (M2.out.draw _).below | exact M2.out.drew.below⟩
  by_cases k17 : op = 17
  · skip
    have HR := Aside0.mk (show showB op a b = x by rw [HX.out]; unfold showB; rw [if_pos h, if_pos (by omega)])
    have q10 : (op == 10) = false := by simpa using k10
    have q11 : (op == 11) = false := by simpa using k11
    have q17 : (op == 17) = true := by simpa using k17
    clear h k10 k11 k17
    go_enter Tryd.func7, Tryd.ntmps7
    go_wp2_with fail
    refine (impl_within.calls _ _ _ _ _ (in_i op)).mono ?_; rintro e w1 ⟨rfl, ⟨⟨n1, rfl⟩⟩⟩; rw [HD.out]
    have M1 := Aside0.mk (M0.out.draw n1)
    go_upto_region 3 with fail
    go_cut [3] (fun v wx => v = .string x ∧ Aside0 (Mem w wx [Hold.box w.heap.size #[.int .i64 op, .int .i64 a, .int .i64 b] 25]))
    case first =>
      go_region_with (go_at_call 17; refine (cFields _ (HT.out _ (by first | exact M1.out.below | exact M1.out.drew.below | exact M1.out.drew.drew.below))).mono ?_; rintro e w2 ⟨rfl, hw2⟩; have M2 := Aside0.mk (show Mem w w2 [Hold.box w.heap.size #[.int .i64 op, .int .i64 a, .int .i64 b] 25] from by rw [hw2]; first | exact (M1.out.alloc _ _).drop | exact (M1.out.drew.alloc _ _).drop | exact (M1.out.drew.drew.alloc _ _).drop); have hxw : w2.cell? ⟨w.heap.size + 1, op.toNat - 1, none⟩ = some (.string x) := (by rw [hw2, show op.toNat - 1 = (op - 1).toNat by omega, HX.out]; exact word_at (by simp) i2 i3); have z := M2.out.box (.head _); clear hw2)
      all_goals go_wp2
      all_goals go_meet
      all_goals exact ⟨rfl, by first | exact M2 | exact ⟨M2.out.drew⟩ | exact ⟨M2.out.drew.drew⟩ | exact ⟨M2.out.draw _⟩⟩
    case rest =>
    clear M1
    obtain ⟨rfl, M2⟩ := hcut
    have z := M2.out.box (.head _)
    go_wp2
    go_ret
    exact ⟨by rw [HR.out]; rfl, by first | exact M2.out.below | exact (M2.out.draw _).below | exact M2.out.drew.below⟩
  by_cases k18 : op = 18
  · skip
    have HR := Aside0.mk (show showB op a b = x by rw [HX.out]; unfold showB; rw [if_pos h, if_pos (by omega)])
    have q10 : (op == 10) = false := by simpa using k10
    have q11 : (op == 11) = false := by simpa using k11
    have q17 : (op == 17) = false := by simpa using k17
    have q18 : (op == 18) = true := by simpa using k18
    clear h k10 k11 k17 k18
    go_enter Tryd.func7, Tryd.ntmps7
    go_wp2_with fail
    refine (impl_within.calls _ _ _ _ _ (in_i op)).mono ?_; rintro e w1 ⟨rfl, ⟨⟨n1, rfl⟩⟩⟩; rw [HD.out]
    have M1 := Aside0.mk (M0.out.draw n1)
    go_upto_region 3 with fail
    go_cut [3] (fun v wx => v = .string x ∧ Aside0 (Mem w wx [Hold.box w.heap.size #[.int .i64 op, .int .i64 a, .int .i64 b] 25]))
    case first =>
      go_region_with (go_at_call 17; refine (cFields _ (HT.out _ (by first | exact M1.out.below | exact M1.out.drew.below | exact M1.out.drew.drew.below))).mono ?_; rintro e w2 ⟨rfl, hw2⟩; have M2 := Aside0.mk (show Mem w w2 [Hold.box w.heap.size #[.int .i64 op, .int .i64 a, .int .i64 b] 25] from by rw [hw2]; first | exact (M1.out.alloc _ _).drop | exact (M1.out.drew.alloc _ _).drop | exact (M1.out.drew.drew.alloc _ _).drop); have hxw : w2.cell? ⟨w.heap.size + 1, op.toNat - 1, none⟩ = some (.string x) := (by rw [hw2, show op.toNat - 1 = (op - 1).toNat by omega, HX.out]; exact word_at (by simp) i2 i3); have z := M2.out.box (.head _); clear hw2)
      all_goals go_wp2
      all_goals go_meet
      all_goals exact ⟨rfl, by first | exact M2 | exact ⟨M2.out.drew⟩ | exact ⟨M2.out.drew.drew⟩ | exact ⟨M2.out.draw _⟩⟩
    case rest =>
    clear M1
    obtain ⟨rfl, M2⟩ := hcut
    have z := M2.out.box (.head _)
    go_wp2
    go_ret
    exact ⟨by rw [HR.out]; rfl, by first | exact M2.out.below | exact (M2.out.draw _).below | exact M2.out.drew.below⟩
  by_cases k19 : op = 19
  · skip
    have HR := Aside0.mk (show showB op a b = x by rw [HX.out]; unfold showB; rw [if_pos h, if_pos (by omega)])
    have q10 : (op == 10) = false := by simpa using k10
    have q11 : (op == 11) = false := by simpa using k11
    have q17 : (op == 17) = false := by simpa using k17
    have q18 : (op == 18) = false := by simpa using k18
    have q19 : (op == 19) = true := by simpa using k19
    clear h k10 k11 k17 k18 k19
    go_enter Tryd.func7, Tryd.ntmps7
    go_wp2_with fail
    refine (impl_within.calls _ _ _ _ _ (in_i op)).mono ?_; rintro e w1 ⟨rfl, ⟨⟨n1, rfl⟩⟩⟩; rw [HD.out]
    have M1 := Aside0.mk (M0.out.draw n1)
    go_upto_region 3 with fail
    go_cut [3] (fun v wx => v = .string x ∧ Aside0 (Mem w wx [Hold.box w.heap.size #[.int .i64 op, .int .i64 a, .int .i64 b] 25]))
    case first =>
      go_region_with (go_at_call 17; refine (cFields _ (HT.out _ (by first | exact M1.out.below | exact M1.out.drew.below | exact M1.out.drew.drew.below))).mono ?_; rintro e w2 ⟨rfl, hw2⟩; have M2 := Aside0.mk (show Mem w w2 [Hold.box w.heap.size #[.int .i64 op, .int .i64 a, .int .i64 b] 25] from by rw [hw2]; first | exact (M1.out.alloc _ _).drop | exact (M1.out.drew.alloc _ _).drop | exact (M1.out.drew.drew.alloc _ _).drop); have hxw : w2.cell? ⟨w.heap.size + 1, op.toNat - 1, none⟩ = some (.string x) := (by rw [hw2, show op.toNat - 1 = (op - 1).toNat by omega, HX.out]; exact word_at (by simp) i2 i3); have z := M2.out.box (.head _); clear hw2)
      all_goals go_wp2
      all_goals go_meet
      all_goals exact ⟨rfl, by first | exact M2 | exact ⟨M2.out.drew⟩ | exact ⟨M2.out.drew.drew⟩ | exact ⟨M2.out.draw _⟩⟩
    case rest =>
    clear M1
    obtain ⟨rfl, M2⟩ := hcut
    have z := M2.out.box (.head _)
    go_wp2
    go_ret
    exact ⟨by rw [HR.out]; rfl, by first | exact M2.out.below | exact (M2.out.draw _).below | exact M2.out.drew.below⟩
  by_cases k9 : op = 9
  · skip
    have HR := Aside0.mk (show showB op a b = ((((x ++ (⟨#[32]⟩ : ByteArray)) ++ dec a) ++ (⟨#[32]⟩ : ByteArray)) ++ dec b) by rw [HX.out]; unfold showB; rw [if_pos h, if_neg (by omega), if_pos (by omega)])
    have q10 : (op == 10) = false := by simpa using k10
    have q11 : (op == 11) = false := by simpa using k11
    have q17 : (op == 17) = false := by simpa using k17
    have q18 : (op == 18) = false := by simpa using k18
    have q19 : (op == 19) = false := by simpa using k19
    have q9 : (op == 9) = true := by simpa using k9
    clear h k10 k11 k17 k18 k19 k9
    have s1 : x.size + 1 ≤ 9223372036854775807 := by have := HXS.out; omega
    have s2 : x.size + 1 + (dec a).size ≤ 9223372036854775807 := by have := HXS.out; have := dec_size a; omega
    have s3 : x.size + 1 + (dec a).size + 1 ≤ 9223372036854775807 := by have := HXS.out; have := dec_size a; omega
    have s4 : x.size + 1 + (dec a).size + 1 + (dec b).size ≤ 9223372036854775807 := by have := HXS.out; have := dec_size a; have := dec_size b; omega
    have s1b := eq_true s1; have s1c := eq_false (Nat.not_lt.2 s1); have s1d := decide_eq_true s1
    have s2b := eq_true s2; have s2c := eq_false (Nat.not_lt.2 s2); have s2d := decide_eq_true s2
    have s3b := eq_true s3; have s3c := eq_false (Nat.not_lt.2 s3); have s3d := decide_eq_true s3
    have s4b := eq_true s4; have s4c := eq_false (Nat.not_lt.2 s4); have s4d := decide_eq_true s4
    go_enter Tryd.func7, Tryd.ntmps7
    go_wp2_with fail
    refine (impl_within.calls _ _ _ _ _ (in_i op)).mono ?_; rintro e w1 ⟨rfl, ⟨⟨n1, rfl⟩⟩⟩; rw [HD.out]
    have M1 := Aside0.mk (M0.out.draw n1)
    go_upto_region 3 with fail
    go_cut [3] (fun v wx => v = .string x ∧ Aside0 (Mem w wx [Hold.box w.heap.size #[.int .i64 op, .int .i64 a, .int .i64 b] 25]))
    case first =>
      go_region_with (go_at_call 17; refine (cFields _ (HT.out _ (by first | exact M1.out.below | exact M1.out.drew.below | exact M1.out.drew.drew.below))).mono ?_; rintro e w2 ⟨rfl, hw2⟩; have M2 := Aside0.mk (show Mem w w2 [Hold.box w.heap.size #[.int .i64 op, .int .i64 a, .int .i64 b] 25] from by rw [hw2]; first | exact (M1.out.alloc _ _).drop | exact (M1.out.drew.alloc _ _).drop | exact (M1.out.drew.drew.alloc _ _).drop); have hxw : w2.cell? ⟨w.heap.size + 1, op.toNat - 1, none⟩ = some (.string x) := (by rw [hw2, show op.toNat - 1 = (op - 1).toNat by omega, HX.out]; exact word_at (by simp) i2 i3); have z := M2.out.box (.head _); clear hw2)
      all_goals go_wp2
      all_goals go_meet
      all_goals exact ⟨rfl, by first | exact M2 | exact ⟨M2.out.drew⟩ | exact ⟨M2.out.drew.drew⟩ | exact ⟨M2.out.draw _⟩⟩
    case rest =>
    clear M1
    obtain ⟨rfl, M2⟩ := hcut
    have z := M2.out.box (.head _)
    go_wp2_with fail
    clear z
    go_region_held3 (fun W => (∀ o, W.cell? ⟨w.heap.size, o, none⟩ = (#[.int .i64 op, .int .i64 a, .int .i64 b] : Array Value)[o]?) ∧ Mem w W [Hold.box w.heap.size #[.int .i64 op, .int .i64 a, .int .i64 b] 25]) (first | exact ⟨M2.out.drew.box (.head _), M2.out.drew⟩ | exact ⟨M4.out.box (.head _), M4.out⟩ | exact ⟨M5.out.box (.head _), M5.out⟩) (first | (go_at_call_of 18 a; refine (cDecI a HA.out _).mono ?_; rintro e w4 ⟨rfl, hb⟩; have M4 := Aside0.mk (M2.out.drew.step hb); clear hb) | (go_at_call_of 18 b; refine (cDecI b HB.out _).mono ?_; rintro e w5 ⟨rfl, hb⟩; have M5 := Aside0.mk (M4.out.step hb); clear hb))
    go_wp2
    go_ret
    exact ⟨by rw [HR.out]; rfl, by first | exact M5.out.below | exact (M5.out.draw _).below⟩
  by_cases k16 : op = 16
  · skip
    have HR := Aside0.mk (show showB op a b = ((((x ++ (⟨#[32]⟩ : ByteArray)) ++ dec a) ++ (⟨#[32]⟩ : ByteArray)) ++ dec b) by rw [HX.out]; unfold showB; rw [if_pos h, if_neg (by omega), if_pos (by omega)])
    have q10 : (op == 10) = false := by simpa using k10
    have q11 : (op == 11) = false := by simpa using k11
    have q17 : (op == 17) = false := by simpa using k17
    have q18 : (op == 18) = false := by simpa using k18
    have q19 : (op == 19) = false := by simpa using k19
    have q9 : (op == 9) = false := by simpa using k9
    have q16 : (op == 16) = true := by simpa using k16
    clear h k10 k11 k17 k18 k19 k9 k16
    have s1 : x.size + 1 ≤ 9223372036854775807 := by have := HXS.out; omega
    have s2 : x.size + 1 + (dec a).size ≤ 9223372036854775807 := by have := HXS.out; have := dec_size a; omega
    have s3 : x.size + 1 + (dec a).size + 1 ≤ 9223372036854775807 := by have := HXS.out; have := dec_size a; omega
    have s4 : x.size + 1 + (dec a).size + 1 + (dec b).size ≤ 9223372036854775807 := by have := HXS.out; have := dec_size a; have := dec_size b; omega
    have s1b := eq_true s1; have s1c := eq_false (Nat.not_lt.2 s1); have s1d := decide_eq_true s1
    have s2b := eq_true s2; have s2c := eq_false (Nat.not_lt.2 s2); have s2d := decide_eq_true s2
    have s3b := eq_true s3; have s3c := eq_false (Nat.not_lt.2 s3); have s3d := decide_eq_true s3
    have s4b := eq_true s4; have s4c := eq_false (Nat.not_lt.2 s4); have s4d := decide_eq_true s4
    go_enter Tryd.func7, Tryd.ntmps7
    go_wp2_with fail
    refine (impl_within.calls _ _ _ _ _ (in_i op)).mono ?_; rintro e w1 ⟨rfl, ⟨⟨n1, rfl⟩⟩⟩; rw [HD.out]
    have M1 := Aside0.mk (M0.out.draw n1)
    go_upto_region 3 with fail
    go_cut [3] (fun v wx => v = .string x ∧ Aside0 (Mem w wx [Hold.box w.heap.size #[.int .i64 op, .int .i64 a, .int .i64 b] 25]))
    case first =>
      go_region_with (go_at_call 17; refine (cFields _ (HT.out _ (by first | exact M1.out.below | exact M1.out.drew.below | exact M1.out.drew.drew.below))).mono ?_; rintro e w2 ⟨rfl, hw2⟩; have M2 := Aside0.mk (show Mem w w2 [Hold.box w.heap.size #[.int .i64 op, .int .i64 a, .int .i64 b] 25] from by rw [hw2]; first | exact (M1.out.alloc _ _).drop | exact (M1.out.drew.alloc _ _).drop | exact (M1.out.drew.drew.alloc _ _).drop); have hxw : w2.cell? ⟨w.heap.size + 1, op.toNat - 1, none⟩ = some (.string x) := (by rw [hw2, show op.toNat - 1 = (op - 1).toNat by omega, HX.out]; exact word_at (by simp) i2 i3); have z := M2.out.box (.head _); clear hw2)
      all_goals go_wp2
      all_goals go_meet
      all_goals exact ⟨rfl, by first | exact M2 | exact ⟨M2.out.drew⟩ | exact ⟨M2.out.drew.drew⟩ | exact ⟨M2.out.draw _⟩⟩
    case rest =>
    clear M1
    obtain ⟨rfl, M2⟩ := hcut
    have z := M2.out.box (.head _)
    go_wp2_with fail
    clear z
    go_region_held3 (fun W => (∀ o, W.cell? ⟨w.heap.size, o, none⟩ = (#[.int .i64 op, .int .i64 a, .int .i64 b] : Array Value)[o]?) ∧ Mem w W [Hold.box w.heap.size #[.int .i64 op, .int .i64 a, .int .i64 b] 25]) (first | exact ⟨M2.out.drew.box (.head _), M2.out.drew⟩ | exact ⟨M4.out.box (.head _), M4.out⟩ | exact ⟨M5.out.box (.head _), M5.out⟩) (first | (go_at_call_of 18 a; refine (cDecI a HA.out _).mono ?_; rintro e w4 ⟨rfl, hb⟩; have M4 := Aside0.mk (M2.out.drew.step hb); clear hb) | (go_at_call_of 18 b; refine (cDecI b HB.out _).mono ?_; rintro e w5 ⟨rfl, hb⟩; have M5 := Aside0.mk (M4.out.step hb); clear hb))
    go_wp2
    go_ret
    exact ⟨by rw [HR.out]; rfl, by first | exact M5.out.below | exact (M5.out.draw _).below⟩
  have HR := Aside0.mk (show showB op a b = ((x ++ (⟨#[32]⟩ : ByteArray)) ++ dec a) by rw [HX.out]; unfold showB; rw [if_pos h, if_neg (by omega), if_neg (by omega)])
  have q10 : (op == 10) = false := by simpa using k10
  have q11 : (op == 11) = false := by simpa using k11
  have q17 : (op == 17) = false := by simpa using k17
  have q18 : (op == 18) = false := by simpa using k18
  have q19 : (op == 19) = false := by simpa using k19
  have q9 : (op == 9) = false := by simpa using k9
  have q16 : (op == 16) = false := by simpa using k16
  clear h k10 k11 k17 k18 k19 k9 k16
  have s1 : x.size + 1 ≤ 9223372036854775807 := by have := HXS.out; omega
  have s2 : x.size + 1 + (dec a).size ≤ 9223372036854775807 := by have := HXS.out; have := dec_size a; omega
  go_enter Tryd.func7, Tryd.ntmps7
  go_wp2_with fail
  refine (impl_within.calls _ _ _ _ _ (in_i op)).mono ?_; rintro e w1 ⟨rfl, ⟨⟨n1, rfl⟩⟩⟩; rw [HD.out]
  have M1 := Aside0.mk (M0.out.draw n1)
  go_upto_region 3 with fail
  go_cut [3] (fun v wx => v = .string x ∧ Aside0 (Mem w wx [Hold.box w.heap.size #[.int .i64 op, .int .i64 a, .int .i64 b] 25]))
  case first =>
    go_region_with (go_at_call 17; refine (cFields _ (HT.out _ (by first | exact M1.out.below | exact M1.out.drew.below | exact M1.out.drew.drew.below))).mono ?_; rintro e w2 ⟨rfl, hw2⟩; have M2 := Aside0.mk (show Mem w w2 [Hold.box w.heap.size #[.int .i64 op, .int .i64 a, .int .i64 b] 25] from by rw [hw2]; first | exact (M1.out.alloc _ _).drop | exact (M1.out.drew.alloc _ _).drop | exact (M1.out.drew.drew.alloc _ _).drop); have hxw : w2.cell? ⟨w.heap.size + 1, op.toNat - 1, none⟩ = some (.string x) := (by rw [hw2, show op.toNat - 1 = (op - 1).toNat by omega, HX.out]; exact word_at (by simp) i2 i3); have z := M2.out.box (.head _); clear hw2)
    all_goals go_wp2
    all_goals go_meet
    all_goals exact ⟨rfl, by first | exact M2 | exact ⟨M2.out.drew⟩ | exact ⟨M2.out.drew.drew⟩ | exact ⟨M2.out.draw _⟩⟩
  case rest =>
  clear M1
  obtain ⟨rfl, M2⟩ := hcut
  have z := M2.out.box (.head _)
  go_wp2_with fail
  clear z
  refine (cDecI a HA.out _).mono ?_; rintro e w4 ⟨rfl, hb⟩
  have M4 := Aside0.mk (M2.out.step hb); clear hb
  have z := M4.out.box (.head _)
  go_wp2
  go_ret
  exact ⟨by rw [HR.out]; rfl, by first | exact M4.out.below | exact (M4.out.draw _).below⟩
end Go.Proofs.YtkgdjhhokbbheaaDoor.Show
end
