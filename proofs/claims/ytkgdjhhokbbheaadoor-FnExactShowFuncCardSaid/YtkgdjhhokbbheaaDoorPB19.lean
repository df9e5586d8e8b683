/- Part 19 of the proof: general lemmas, contracts of functions, walks. No condition of its own. -/
import Derived.Deep.RegionWith
import Derived.Deep.RegionHeld3
import Derived.IntWalk
import Derived.Shelf.Strings.Fields
import Derived.Test.YtkgdjhhokbbheaaDoorProg
import Derived.Test.YtkgdjhhokbbheaaDoorPB17
import Derived.Test.YtkgdjhhokbbheaaDoorPB18
import Derived.Test.YtkgdjhhokbbheaaDoorPB12
section
namespace Go.Proofs.YtkgdjhhokbbheaaDoor.Law
open Go.RowKit Go.Proofs.YtkgdjhhokbbheaaDoorW.PrintWords Go.Proofs.YtkgdjhhokbbheaaDoorW.PrintMore
set_option linter.unusedVariables false
theorem Mem.grow {α : Type} {d : Kd α} {e : Nat} {w W w1 : World} {H : List Hold} {lo hi : Nat} {l l1 : List α} {v v1 : Value} (h : Mem w W (Hold.val (Kd.slice e d) lo hi l [v] :: H)) (hH : ∀ x ∈ H, x.hi ≤ lo) (hb : Below lo W w1) (hr : d.R e w1 lo (fun k => lo ≤ k) v1 l1) : Mem w w1 (Hold.val (Kd.slice e d) lo w1.heap.size l1 [v1] :: H) := by
  have hf := (h.fits _ (.head _))
  have hlo : w.heap.size ≤ lo := hf.1
  refine ⟨h.below.trans ⟨hb.os, hb.tape, hb.output, hb.size, fun i hi => hb.block i (Nat.lt_of_lt_of_le hi hlo)⟩, fun x hx => ?_, fun x hx => ?_, ?_⟩
  · rcases List.mem_cons.1 hx with rfl | hx
    · exact ⟨v1, rfl, Kd.R_mono (Kd.R_bound hr) (fun k hk => ⟨hk.1, hk.2.2.1⟩)⟩
    · exact x.mv (fun k _ h2 _ => hb.block k (Nat.lt_of_lt_of_le h2 (hH x hx))) (h.says x (.tail _ hx))
  · rcases List.mem_cons.1 hx with rfl | hx
    · exact ⟨hlo, Nat.le_refl _⟩
    · have := h.fits x (.tail _ hx)
      exact ⟨this.1, Nat.le_trans this.2 hb.size⟩
  · exact List.pairwise_cons.2 ⟨fun x hx => .inl (hH x hx), (List.pairwise_cons.1 h.apart).2⟩
end Go.Proofs.YtkgdjhhokbbheaaDoor.Law
end
section
namespace Go.Proofs.YtkgdjhhokbbheaaDoor.Show
open Go.RowKit Go.Proofs.YtkgdjhhokbbheaaDoorW.PrintWords Go.Proofs.YtkgdjhhokbbheaaDoorW.PrintMore Go.Proofs.YtkgdjhhokbbheaaDoor.Law Go.Proofs.YtkgdjhhokbbheaaDoor Go.Proofs.YtkgdjhhokbbheaaDoor.QFnExactShowFunc
set_option linter.unusedVariables false
set_option linter.unusedSimpArgs false
set_option autoImplicit false
set_option maxHeartbeats 8000000 in
set_option maxRecDepth 100000 in
theorem cShowFS (x : Image) (fn : Int) (A0 : Option Addr) (c0 : Nat) (A1 : Option Addr) (c1 : Nat) (w : World) (l0 : x.funcs.length ≤ c0) (g0 : kFuncI.C w A0 x.funcs.length x.funcs) (l1 : x.consts.length ≤ c1) (g1 : kConst.C w A1 x.consts.length x.consts) (hn : ∀ y ∈ x.consts, 0 ≤ y.num ∧ y.num < 18446744073709551616) :
    Calls Tryd.prog 9 #[.agg #[.slice A0 x.funcs.length c0, .slice A1 x.consts.length c1], .int .i64 fn] w fun e w' => e = .returned (.string (showFB x fn)) ∧ Below w.heap.size w w' := by
  have hu := Tryd.underlying37; have hu1 := Tryd.underlying34; have hu2 := Tryd.underlying54; have hu3 := Tryd.underlying51; have hu4 := Tryd.underlying25
  have G0 := Aside0.mk g0; have G1 := Aside0.mk g1; have HN := Aside0.mk hn; have L0 := Aside0.mk l0; have L1 := Aside0.mk l1
  have hlen : x.funcs.length ≤ 9223372036854775807 := g0.2.1
  clear g0 g1 hn l0 l1
  have M0 := Aside0.mk ((Mem.start w).allocAt rfl #[.slice A0 x.funcs.length c0, .slice A1 x.consts.length c1] 37)
  have z := M0.out.box (.head _)
  have i4 : IntKind.i64.wrap ((x.funcs.length : Int) - 1) = (x.funcs.length : Int) - 1 := IntWalk.i64_in _ (by omega)
  have i5 : wrap64 ((x.funcs.length : Int) - 1) = (x.funcs.length : Int) - 1 := by unfold wrap64; omega
  go_enter Tryd.func9, Tryd.ntmps9
  go_wp2_with fail
  refine (cImageOkS x A0 c0 A1 c1 _ L0.out (Kd.C_below G0.out M0.out.below) L1.out (Kd.C_below G1.out M0.out.below) HN.out).mono ?_
  rintro e w1 ⟨rfl, hb⟩
  have M1 := Aside0.mk (M0.out.step hb); clear hb M0 z
  have z := M1.out.box (.head _)
  rcases Bool.eq_false_or_eq_true (imgB x) with hi | hi
  rotate_left
  · rw [hi]
    have HR := Aside0.mk (show showFB x fn = (⟨#[]⟩ : ByteArray) by unfold showFB; rw [hi]; rfl)
    clear hi
    go_wp2
    go_ret
    exact ⟨by rw [HR.out]; rfl, M1.out.below⟩
  rw [hi]
  have HI := Aside0.mk hi; clear hi
  go_wp2_with fail
  refine (spec_l01In.calls _ _ _ _ _ (Img.spec_in fn 0 ((x.funcs.length : Int) - 1))).mono ?_; rintro e w2 ⟨rfl, ⟨⟨n1, rfl⟩⟩⟩
  have M1s := Aside0.mk (show w.heap.size + 1 ≤ w1.heap.size from (M1.out.fits _ (.head _)).2)
  have M2 := Aside0.mk (M1.out.draw n1); clear M1 z
  have z := M2.out.box (.head _)
  rcases Bool.eq_false_or_eq_true (Img.inB fn 0 ((x.funcs.length : Int) - 1)) with hf | hf
  rotate_left
  · rw [hf]
    have HR := Aside0.mk (show showFB x fn = (⟨#[]⟩ : ByteArray) by unfold showFB; rw [hf]; simp)
    clear hf
    go_wp2
    go_ret
    exact ⟨by rw [HR.out]; rfl, M2.out.below⟩
  rw [hf]
  have hfr := of_decide_eq_true hf
  obtain ⟨jf, rfl⟩ : ∃ jf : Nat, fn = jf := ⟨fn.toNat, by omega⟩
  have hjf : jf < x.funcs.length := by omega
  have j1 : (0 : Int) ≤ (jf : Int) := by omega
  have j2 : (jf : Int) < (x.funcs.length : Int) := by omega
  obtain ⟨code, hcode⟩ : ∃ code, code = (el zFunc x.funcs jf).code := ⟨_, rfl⟩
  have HR := Aside0.mk (show showFB x (jf : Int) = linesTo code code.length by unfold showFB; rw [if_pos ⟨HI.out, hf⟩, Int.toNat_natCast, hcode])
  have HF := func_code (img_func HI.out (el_mem zFunc hjf))
  obtain ⟨fa, A3, c3, hfa, px3, l3, g3⟩ := func_at G0.out jf hjf
  rw [← hcode] at px3 l3 g3 HF
  have HC := Aside0.mk HF.2.2; have hcl := HF.2.1
  have G3 := Aside0.mk g3; have PX := Aside0.mk px3
  cases hfa
  clear hf hfr hcode HF g3 px3 l3
  go_wp2_with fail
  clear z
  have M3 := Aside0.mk (M2.out.pushR (below_alloc (Below.refl _ _) (.cells #[] 5)) (R_empty (Kd.int .u8) 5 _)); clear M2
  obtain ⟨lo2, hlo2⟩ : ∃ g, g = w1.heap.size := ⟨_, rfl⟩
  rw [show (w1.drewN n1).heap.size = lo2 from hlo2.symm] at M3
  rw [← hlo2]
  have HW := Aside0.mk (show w.heap.size + 1 ≤ lo2 from by rw [hlo2]; exact M1s.out)
  clear M1s
  generalize hhi0 : ((w1.drewN n1).alloc (.cells #[] 5)).heap.size = hi0 at M3
  have HH0 := Aside0.mk (show lo2 ≤ hi0 from by rw [← hhi0, hlo2]; exact (below_alloc (Below.refl (w1.drewN n1).heap.size (w1.drewN n1)) (.cells #[] 5)).size)
  clear hhi0 hlo2
  go_loopw [5, 6] (fun u v wx => ∃ (q hi : Nat) (LA : Option Addr) (LC : Nat), v = .int .i64 q ∧ q ≤ code.length ∧ lo2 ≤ hi ∧ u = .slice LA (linesTo code q).size LC ∧ Aside0 (Mem w wx [Hold.val (Kd.slice 5 (Kd.int .u8)) lo2 hi (bytesOf (linesTo code q)) [.slice LA (linesTo code q).size LC], Hold.box w.heap.size #[.slice (some fa) x.funcs.length c0, .slice A1 x.consts.length c1] 37])) (fun u v _ => code.length - (intOf v).toNat)
  case atStart => exact ⟨0, hi0, some ⟨lo2, 0, none⟩, 0, rfl, by omega, HH0.out, rfl, M3⟩
  case round =>
  clear M3
  obtain ⟨q, hi, LA, LC, rfl, hq, hhi, rfl, M5⟩ := hrel
  have HHI := Aside0.mk hhi; clear hhi
  have z := M5.out.box (.tail _ (.head _))
  have px3 := pw_cell_below M5.out.below PX.out
  have hsz := linesTo_size code q hq
  obtain ⟨lq, hlq⟩ : ∃ lq, lq = linesTo code q := ⟨_, rfl⟩
  rw [← hlq] at M5 hsz
  rw [← hlq]
  have HLQ := Aside0.mk hlq; clear hlq
  by_cases hqt : q < code.length
  · have hql : (q : Int) < (code.length : Int) := by omega
    obtain ⟨ca, hca, cK, y0, y1, y2⟩ := Ins_at (Kd.C_below G3.out M5.out.below) q hqt
    cases hca
    clear cK
    have hci := HC.out _ (el_mem zIns hqt)
    obtain ⟨x1, hx1⟩ : ∃ x1, x1 = el zIns code q := ⟨_, rfl⟩
    rw [← hx1] at y0 y1 y2 hci
    have HLS := Aside0.mk (show linesTo code (q + 1) = lq ++ (showB x1.op x1.a x1.b ++ (⟨#[10]⟩ : ByteArray)) by rw [linesTo_succ hqt, ← hx1, HLQ.out]; rfl)
    have HCI := Aside0.mk hci
    clear hx1 hci
    go_wp2_with fail
    refine (cShowS x1.op x1.a x1.b _ (by have := HCI.out; omega) (by have := HCI.out; omega)).mono ?_; rintro e w6 ⟨rfl, hb⟩
    have M6 := Aside0.mk (M5.out.step hb); clear hb M5 z px3 y0 y1 y2
    have hss := showB_size x1.op x1.a x1.b
    obtain ⟨s, hs⟩ : ∃ s, s = showB x1.op x1.a x1.b := ⟨_, rfl⟩
    rw [← hs] at HLS hss
    rw [← hs]
    clear hs
    have s1 : s.size + 1 ≤ 9223372036854775807 := by omega
    have he1 : (⟨#[10]⟩ : ByteArray).size = 1 := rfl
    have hsn : (s ++ (⟨#[10]⟩ : ByteArray)).size = s.size + 1 := by rw [ByteArray.size_append, he1]
    have kb := fun W : World => print_bytes (P := Tryd.prog) 9 49 5 Tryd.underlying9 Tryd.underlying49 Tryd.underlying5 (s ++ (⟨#[10]⟩ : ByteArray)) W
    have HOLDS := Aside0.mk (show ∀ h ∈ [Hold.box w.heap.size #[.slice (some fa) x.funcs.length c0, .slice A1 x.consts.length c1] 37], h.hi ≤ lo2 from by
      intro h hh
      have := HW.out
      rcases List.mem_cons.1 hh with rfl | hh
      · exact this
      · exact absurd hh List.not_mem_nil)
    have HSZ := Aside0.mk (show lo2 ≤ w6.heap.size from Nat.le_trans HHI.out (M6.out.fits _ (.head _)).2)
    go_wp2_with (((with_reducible refine gate_builtin (b := .append) (xs := #[.tmp 31, .tmp 43]) rfl ?_); at_builtin; refine Aside0.out ?_))
    refine ⟨?_⟩
    (refine Kd.R_append_row (Value.int .u8) (0 : Int) (h1 := fun _ => rfl) (w0 := w6) lo2 rfl (.tmp 31) (.tmp 43) 49 5 (.int .u8 0) 1 rfl Tryd.underlying49 info5 rfl (by decide) ?hV (bytesOf lq) (bytesOf (s ++ (⟨#[10]⟩ : ByteArray))) ?hA ?hM ?hC (fun k => lo2 ≤ k) ?aV ?aX ?aF ?aO ?aR ?aB ?aS ?aL ?_; (case aV => first | rfl | (go_simp; done) | (go_simp; rfl)); (case aX => first | rfl | (go_simp; done) | (go_simp; rfl)); (case aF => exact (fun k hk => Nat.le_trans (Nat.le_trans HSZ.out (bytes_below (Below.refl _ w6) (Nat.le_refl _) 5 _).size) hk)); (case aO => exact (Kd.R_below (Kd.R_mono (M6.out.row (.head _)) (fun k hk => hk.1)) (bytes_below (Below.refl _ w6) (Nat.le_refl _) 5 _))); (case aR => first | exact (Kd.C_of_reads (enc := Value.int .u8) (d := (0 : Int)) (h1 := fun _ => rfl) (bytes_reads w6 5 _ (by omega))) | (rw [← hsn]; exact (Kd.C_of_reads (enc := Value.int .u8) (d := (0 : Int)) (h1 := fun _ => rfl) (bytes_reads w6 5 _ (by omega))))); (case aB => exact (bytes_below (Below.refl _ _) HSZ.out 5 _)); (case aS => exact (Nat.le_trans HSZ.out (bytes_below (Below.refl _ w6) (Nat.le_refl _) 5 _).size)); (case aL => rw [bytesOf_length]; omega); intro v9 w9 ho hb9 hg hat; have HO9 := Aside0.mk ho; have HB9 := Aside0.mk hb9; clear ho hb9 hg hat)
    go_wp2
    go_roundw
    case measure => simp [intOf]; omega
    case rel =>
      have HG := Aside0.mk (Mem.grow M6.out HOLDS.out HB9.out HO9.out)
      obtain ⟨v9A, v9c, hv9⟩ := Kd.R_slice HO9.out
      rw [← bytesOf_append, ← HLS.out, bytesOf_length] at hv9
      refine ⟨q + 1, w9.heap.size, v9A, v9c, by go_num, by omega, Nat.le_trans HSZ.out HB9.out.size, hv9, ⟨?_⟩⟩
      have h := HG.out
      rw [← bytesOf_append, ← HLS.out, hv9] at h
      exact h
  have hql : ¬ (q : Int) < (code.length : Int) := by omega
  obtain rfl : q = code.length := by omega
  have HCS := (Kd.R_reads' (M5.out.row (.head _))).2.2
  have ks := Kd.C_string (P := Tryd.prog) (src := 49) (dst := 9) (e := 5) (c := LC) Tryd.underlying49 Tryd.underlying5 Tryd.underlying9 HCS
  rw [bytesOf_length, str_bytesOf] at ks
  clear HCS
  go_wp2
  go_ret
  exact ⟨by rw [HR.out, ← HLQ.out]; rfl, M5.out.below⟩
end Go.Proofs.YtkgdjhhokbbheaaDoor.Show
end
section
namespace Go.Proofs
open Go.Shelf
def Tryd.lays157_ren : Go.Shelf.Ren := ⟨fun | 157 => 17 | 229 => 28 | 199 => 29 | 261 => 40 | 311 => 52 | 312 => 53 | n => n, fun | 9 => 9 | 31 => 42 | 3 => 3 | 5 => 5 | 4 => 4 | 119 => 60 | 0 => 0 | 40 => 62 | 152 => 80 | 21 => 21 | 154 => 82 | 51 => 83 | 141 => 85 | 196 => 103 | 193 => 100 | 198 => 106 | 49 => 104 | 194 => 101 | 201 => 109 | 226 => 121 | 46 => 122 | 227 => 123 | n => n, fun | 0 => 0 | 6 => 1 | n => n⟩
theorem Tryd.lays157 : Go.Proofs.Lays.n157 Tryd.prog Tryd.lays157_ren := {
  mixed := by kernel_rfl
  f157 := Tryd.func17.trans (congrArg some (by kernel_rfl))
  f199 := Tryd.func29.trans (congrArg some (by kernel_rfl))
  f229 := Tryd.func28.trans (congrArg some (by kernel_rfl))
  f261 := Tryd.func40.trans (congrArg some (by kernel_rfl))
  f311 := Tryd.func52.trans (congrArg some (by kernel_rfl))
  f312 := Tryd.func53.trans (congrArg some (by kernel_rfl))
  t0 := Tryd.underlying0
  a0 := Tryd.isAgg0
  z0 := Tryd.sizeOf0
  v0 := Tryd.zeroValue0
  t3 := Tryd.underlying3
  a3 := Tryd.isAgg3
  z3 := Tryd.sizeOf3
  v3 := Tryd.zeroValue3
  t4 := Tryd.underlying4
  a4 := Tryd.isAgg4
  z4 := Tryd.sizeOf4
  v4 := Tryd.zeroValue4
  t5 := Tryd.underlying5
  a5 := Tryd.isAgg5
  z5 := Tryd.sizeOf5
  v5 := Tryd.zeroValue5
  t9 := Tryd.underlying9
  a9 := Tryd.isAgg9
  z9 := Tryd.sizeOf9
  v9 := Tryd.zeroValue9
  t21 := Tryd.underlying21
  a21 := Tryd.isAgg21
  z21 := Tryd.sizeOf21
  v21 := Tryd.zeroValue21
  t31 := Tryd.underlying42
  a31 := Tryd.isAgg42
  z31 := Tryd.sizeOf42
  v31 := Tryd.zeroValue42
  t40 := Tryd.underlying62
  a40 := Tryd.isAgg62
  z40 := Tryd.sizeOf62
  v40 := Tryd.zeroValue62
  t46 := Tryd.underlying122
  a46 := Tryd.isAgg122
  z46 := Tryd.sizeOf122
  v46 := Tryd.zeroValue122
  t49 := Tryd.underlying104
  a49 := Tryd.isAgg104
  z49 := Tryd.sizeOf104
  v49 := Tryd.zeroValue104
  t51 := Tryd.underlying83
  a51 := Tryd.isAgg83
  z51 := Tryd.sizeOf83
  v51 := Tryd.zeroValue83
  t119 := Tryd.underlying60
  a119 := Tryd.isAgg60
  z119 := Tryd.sizeOf60
  t141 := Tryd.underlying85
  a141 := Tryd.isAgg85
  z141 := Tryd.sizeOf85
  v141 := Tryd.zeroValue85
  t152 := Tryd.underlying80
  a152 := Tryd.isAgg80
  z152 := Tryd.sizeOf80
  v152 := Tryd.zeroValue80
  t154 := Tryd.underlying82
  a154 := Tryd.isAgg82
  z154 := Tryd.sizeOf82
  v154 := Tryd.zeroValue82
  t193 := Tryd.underlying100
  a193 := Tryd.isAgg100
  z193 := Tryd.sizeOf100
  v193 := Tryd.zeroValue100
  t194 := Tryd.underlying101
  a194 := Tryd.isAgg101
  z194 := Tryd.sizeOf101
  v194 := Tryd.zeroValue101
  t196 := Tryd.underlying103
  a196 := Tryd.isAgg103
  z196 := Tryd.sizeOf103
  v196 := Tryd.zeroValue103
  t198 := Tryd.underlying106
  a198 := Tryd.isAgg106
  z198 := Tryd.sizeOf106
  v198 := Tryd.zeroValue106
  t201 := Tryd.underlying109
  a201 := Tryd.isAgg109
  z201 := Tryd.sizeOf109
  v201 := Tryd.zeroValue109
  t226 := Tryd.underlying121
  a226 := Tryd.isAgg121
  z226 := Tryd.sizeOf121
  v226 := Tryd.zeroValue121
  t227 := Tryd.underlying123
  a227 := Tryd.isAgg123
  z227 := Tryd.sizeOf123
  v227 := Tryd.zeroValue123
  g0 := by kernel_rfl
  g6 := by kernel_rfl }
open Go.RowKit Go.Lib in
/-- strings.Fields, the table by 'Lib.TabIs' (as strings.TrimSpace's contract). 'hg': the table's number, by its name: at a dump 'by kernel_rfl'. (LAID: no walk: one application.) -/
theorem Tryd.strings_Fields (s : ByteArray) (w : World) (hs : s.size < 4294967281) (hascii : ∀ (j : Nat) b, s.data.toList[j]? = some b → b.toNat < 128) (htab : Lib.TabIs Tryd.prog w "strings.asciiSpace" .u8 Lib.asciiSpaceTab) :
    Calls Tryd.prog 17 #[.string s] w fun e w' =>
      e = .returned (.slice (some ⟨w.heap.size, 0, none⟩) (Lib.fields s.data.toList).length (Lib.fields s.data.toList).length) ∧ w' = w.alloc (.cells ((Lib.fields s.data.toList).map fun l => Value.string ⟨l.toArray⟩).toArray 9) := Any.strings_Fields Tryd.lays157 (by kernel_rfl) (by kernel_rfl) s w hs hascii htab
end Go.Proofs
end
