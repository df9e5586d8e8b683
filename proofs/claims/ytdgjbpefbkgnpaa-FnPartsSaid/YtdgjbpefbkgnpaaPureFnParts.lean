/- What the law 'FnParts' comes to is true, for all bytes. -/
import Derived.Test.YtdgjbpefbkgnpaaPureDraw
import Derived.Test.YtdgjbpefbkgnpaaQFnPartsx7
namespace Go.Proofs.Ytdgjbpefbkgnpaa.Pure.FnParts
open Go.RowKit Go.Proofs.Ytdgjbpefbkgnpaa.QFnParts Go.Proofs.Ytdgjbpefbkgnpaa.Num Go.Proofs.YtdgjbpefbkgnpaaW.PrintWords Go.Proofs.YtdgjbpefbkgnpaaW.PrintMore Go.Proofs.Ytdgjbpefbkgnpaa.Pure.Draw Go.Proofs.Ytdgjbpefbkgnpaa.Pure.Round
set_option linter.unusedVariables false
set_option linter.unusedSimpArgs false
namespace P
theorem pow63 : spec_l03Pow.f 100 63 = some 9223372036854775808 := by decide +kernel
theorem spec_parts {x : Int} (h0 : 0 ≤ x) (h1 : x < 18446744073709551616) : spec_PartsOfNumber.f 100 x = some (PN x) := by
  unfold spec_PartsOfNumber.f
  have hq := Int.emod_lt_of_pos x (show (0 : Int) < 4503599627370496 by omega)
  have hq0 := Int.emod_nonneg x (show (4503599627370496 : Int) ≠ 0 by omega)
  have e1 : wrap64 (Int.tmod (IntKind.u64.wrap (Int.tdiv x 4503599627370496)) 2048) = x / 4503599627370496 % 2048 := by
    rw [tdiv_pos h0, u64_id (by omega) (by omega), tmod_pos (by omega), wrap64_id (by omega) (by omega)]
  have e2 : Int.tmod x 4503599627370496 = x % 4503599627370496 := tmod_pos h0
  have e3 : IntKind.u64.wrap (Int.tdiv x 9223372036854775808) = x / 9223372036854775808 := by rw [tdiv_pos h0, u64_id (by omega) (by omega)]
  rw [pow63]
  simp only [Option.bind_some, e1, e2, e3]
  rw [if_neg (by omega)]
  unfold PN
  by_cases h2 : x / 4503599627370496 % 2048 = 2047
  · rw [if_pos h2, if_pos h2]
    by_cases h3 : x % 4503599627370496 = 0
    · simp only [spec_PartsOfNumber.j0, h3, bne_self_eq_false, Bool.false_eq_true, if_false, h2, if_true]
    · simp only [spec_PartsOfNumber.j0, (bne_iff_ne.mpr h3), if_true, if_neg h3]
  · rw [if_neg h2, if_neg h2]
    by_cases h4 : x / 4503599627370496 % 2048 = 0
    · by_cases h3 : x % 4503599627370496 = 0
      · simp [spec_PartsOfNumber.j0, spec_PartsOfNumber.j1, h4, h3]
      · simp [spec_PartsOfNumber.j0, spec_PartsOfNumber.j1, h4, h3]
    · rw [if_neg h4]
      simp only [spec_PartsOfNumber.j0, spec_PartsOfNumber.j1, Bool.false_eq_true, if_false, if_neg h2, if_neg h4]
      rw [u64_id (by omega) (by omega), wrap64_id (by omega) (by omega)]
theorem impl_nan {x : Int} (h0 : 0 ≤ x) (h1 : x < 18446744073709551616) : impl_isNaN.f x = some (isNan x) := by
  unfold impl_isNaN.f isNan
  rw [and_63 h0 h1]
theorem impl_parts {x : Int} (h0 : 0 ≤ x) (h1 : x < 18446744073709551616) : impl_PartsOfNumber.f 100 x = some (PN x) := by
  unfold impl_PartsOfNumber.f
  have hb := PN_nan h0
  have e1 : wrap64 (Go.bits .and .u64 (x / 4503599627370496) 2047) = x / 4503599627370496 % 2048 := by
    rw [and_2047 (by omega) (by omega), wrap64_id (by omega) (by omega)]
  have e2 : Go.bits .and .u64 x 4503599627370495 = x % 4503599627370496 := and_52 h0 h1
  rw [impl_nan h0 h1]
  simp only [Option.bind_some, e1, e2]
  rw [← hb]
  unfold PN
  by_cases h2 : x / 4503599627370496 % 2048 = 2047
  · by_cases h3 : x % 4503599627370496 = 0
    · simp [h2, h3]
    · simp [h2, h3]
  · by_cases h4 : x / 4503599627370496 % 2048 = 0
    · by_cases h3 : x % 4503599627370496 = 0
      · simp [impl_PartsOfNumber.j0, h4, h3]
      · simp [impl_PartsOfNumber.j0, h4, h3]
    · rw [if_neg h2, if_neg h4]
      simp only [impl_PartsOfNumber.j0, if_neg h2, if_neg h4, Bool.false_eq_true, if_false]
      rw [or_52 (by omega) (by omega), wrap64_id (by omega) (by omega)]
      simp
end P
theorem and255 (a : Int) : 0 ≤ Go.bits .and .i64 a 255 ∧ Go.bits .and .i64 a 255 < 256 := by
  unfold Go.bits
  simp only [BitVec.toNat_and]
  have h : (BitVec.ofInt IntKind.i64.bits a).toNat &&& (BitVec.ofInt IntKind.i64.bits 255).toNat ≤ 255 := Nat.le_trans Nat.and_le_right (by decide)
  generalize (BitVec.ofInt IntKind.i64.bits a).toNat &&& (BitVec.ofInt IntKind.i64.bits 255).toNat = n at h
  rw [IntKind.wrap_i64]
  omega
/-- A cursor within its bytes. -/
def Cur (b : List Int) (i : Int) : Prop := 0 ≤ i ∧ i ≤ (b.length : Int) ∧ b.length ≤ 1048576
theorem new_loop (b : List Int) (hb : b.length ≤ 1048576) (d : Nat) : ∀ (k : Nat) (x i : Int), 0 ≤ i → i ≤ (b.length : Int) → (b.length : Int) - i = d → d < k → ∃ h, spec_l01New.l0 k b x i = some (b, 0, h) := by
  induction d with
  | zero =>
    intro k x i h0 h1 hd hk
    obtain ⟨k, rfl⟩ : ∃ m, k = m + 1 := ⟨k - 1, by omega⟩
    simp only [spec_l01New.l0]
    rw [if_neg (by omega)]
    exact ⟨_, rfl⟩
  | succ d ih =>
    intro k x i h0 h1 hd hk
    obtain ⟨k, rfl⟩ : ∃ m, k = m + 1 := ⟨k - 1, by omega⟩
    simp only [spec_l01New.l0]
    rw [if_pos (by omega)]
    by_cases h4 : i < 4000
    · rw [if_pos h4, if_pos h0, wrap64_id (n := i + 1) (by omega) (by omega)]
      exact ih k _ (i + 1) (by omega) (by omega) (by omega) (by omega)
    · rw [if_neg h4]
      exact ⟨_, rfl⟩
theorem new_ok (b : List Int) (hb : b.length ≤ 1048576) {k : Nat} (hk : 1048577 ≤ k) : ∃ h, spec_l01New.f k b = some (b, 0, h) ∧ Cur b 0 := by
  obtain ⟨h, e⟩ := new_loop b hb b.length k (wrap64 (11501 + (b.length : Int))) 0 (by omega) (by omega) (by omega) (by omega)
  exact ⟨h, e, by omega, by omega, hb⟩
theorem byte_ok {b : List Int} {i : Int} (h : Int) (hc : Cur b i) : ∃ x i' h', spec_l01Byte.f b i h = some (x, i', h') ∧ 0 ≤ x ∧ x < 256 ∧ Cur b i' := by
  unfold spec_l01Byte.f
  obtain ⟨h0, h1, h2⟩ := hc
  by_cases hl : i < (b.length : Int)
  · rw [if_pos hl, if_pos h0, wrap64_id (n := i + 1) (by omega) (by omega)]
    exact ⟨_, _, _, rfl, (and255 _).1, (and255 _).2, by omega, by omega, h2⟩
  · rw [if_neg hl]
    exact ⟨_, _, _, rfl, (and255 _).1, (and255 _).2, h0, h1, h2⟩
theorem below_ok {b : List Int} {i : Int} (h n : Int) (hc : Cur b i) (hn : n ≤ 4294967296) : ∃ x i' h', spec_l01Below.f b i h n = some (x, i', h') ∧ 0 ≤ x ∧ (0 < n → x < n) ∧ Cur b i' := by
  unfold spec_l01Below.f
  by_cases h0 : n ≤ 0
  · rw [if_pos h0]
    exact ⟨_, _, _, rfl, by omega, by omega, hc⟩
  · rw [if_neg h0]
    by_cases h1 : n ≤ 256
    · rw [if_pos h1]
      obtain ⟨x, i1, h1, e, hx, hx1, hc1⟩ := byte_ok h hc
      rw [e]
      simp only [Option.bind_some]
      rw [if_neg (by omega)]
      refine ⟨_, _, _, rfl, Int.tmod_nonneg _ hx, fun _ => ?_, hc1⟩
      rw [tmod_pos hx]
      exact Int.emod_lt_of_pos _ (by omega)
    · rw [if_neg h1]
      obtain ⟨x, i1, h1, e1, hx, hx1, hc1⟩ := byte_ok h hc
      obtain ⟨y, i2, h2, e2, hy, hy1, hc2⟩ := byte_ok h1 hc1
      obtain ⟨z, i3, h3, e3, hz, hz1, hc3⟩ := byte_ok h2 hc2
      obtain ⟨w, i4, h4, e4, hw, hw1, hc4⟩ := byte_ok h3 hc3
      simp only [e1, e2, e3, e4, Option.bind_some]
      rw [if_neg (by omega)]
      rw [wrap64_id (n := x * 16777216) (by omega) (by omega), wrap64_id (n := y * 65536) (by omega) (by omega), wrap64_id (n := z * 256) (by omega) (by omega), wrap64_id (n := x * 16777216 + y * 65536) (by omega) (by omega), wrap64_id (n := x * 16777216 + y * 65536 + z * 256) (by omega) (by omega), wrap64_id (n := x * 16777216 + y * 65536 + z * 256 + w) (by omega) (by omega)]
      refine ⟨_, _, _, rfl, Int.tmod_nonneg _ (by omega), fun _ => ?_, hc4⟩
      rw [tmod_pos (by omega)]
      exact Int.emod_lt_of_pos _ (by omega)
theorem once_ok {b : List Int} {i : Int} (h n : Int) (hc : Cur b i) (hn : n ≤ 4294967296) : ∃ x i' h', spec_l01Once.f b i h n = some (x, i', h') ∧ Cur b i' := by
  unfold spec_l01Once.f
  obtain ⟨x, i1, h1, e, _, _, hc1⟩ := below_ok h n hc hn
  rw [e]
  exact ⟨_, _, _, rfl, hc1⟩
theorem fromInt_ok {k : Nat} (hk : 200 ≤ k) {n : Int} (h0 : -1000 ≤ n) (h1 : n ≤ 1000) : ∃ r, spec_FromInt.f k n = some r ∧ W r := by
  unfold spec_FromInt.f
  rw [if_neg (by omega)]
  by_cases c : n < 0
  · rw [if_pos c, wrap64_id (n := -n) (by omega) (by omega), u64_id (n := -n) (by omega) (by omega)]
    obtain ⟨r, hr, hw⟩ := round_ok hk true (x := -n) (e := 0) (by omega) (by omega) (by omega) (by omega)
    rw [hr]
    exact ⟨r, rfl, hw⟩
  · rw [if_neg c, u64_id (n := n) (by omega) (by omega)]
    obtain ⟨r, hr, hw⟩ := round_ok hk false (x := n) (e := 0) (by omega) (by omega) (by omega) (by omega)
    rw [hr]
    exact ⟨r, rfl, hw⟩
theorem bits_ok {b : List Int} {i : Int} (h : Int) (hc : Cur b i) : ∃ x i' h', spec_l03Bits64.f b i h = some (x, i', h') ∧ W x ∧ Cur b i' := by
  unfold spec_l03Bits64.f
  obtain ⟨x, i1, h1, e1, _, _, hc1⟩ := below_ok h 4294967296 hc (by omega)
  rw [e1]
  simp only [Option.bind_some]
  obtain ⟨y, i2, h2, e2, _, _, hc2⟩ := below_ok h1 4294967296 hc1 (by omega)
  rw [e2]
  exact ⟨_, _, _, rfl, wrapW _, hc2⟩
theorem j0_ok {b : List Int} {i : Int} (h q : Int) (t : Bool) (hc : Cur b i) {k : Nat} (hk : 300 ≤ k) : ∃ x i' h', spec_l03Number.j0 k q t b i h = some (x, i', h') ∧ W x ∧ Cur b i' := by
  obtain ⟨k, rfl⟩ : ∃ m, k = m + 1 := ⟨k - 1, by omega⟩
  simp only [spec_l03Number.j0]
  by_cases ct : t = true
  · rw [if_pos ct]
    obtain ⟨x, i1, h1, e1, x0, x1, hc1⟩ := below_ok h 2000 hc (by omega)
    have := x1 (by omega)
    rw [e1]
    simp only [Option.bind_some]
    rw [wrap64_id (n := x - 1000) (by omega) (by omega)]
    obtain ⟨r, hr, hw⟩ := fromInt_ok (k := k) (by omega) (n := x - 1000) (by omega) (by omega)
    rw [hr]
    exact ⟨_, _, _, rfl, hw, hc1⟩
  · rw [if_neg ct]
    by_cases c3 : q = 3
    · rw [if_pos c3]
      obtain ⟨s, i1, h1, e1, hc1⟩ := once_ok h 2 hc (by omega)
      rw [e1]
      simp only [Option.bind_some]
      obtain ⟨x, i2, h2, e2, x0, x1, hc2⟩ := below_ok h1 1000000 hc1 (by omega)
      have := x1 (by omega)
      rw [e2]
      simp only [Option.bind_some]
      obtain ⟨y, i3, h3, e3, y0, y1, hc3⟩ := below_ok h2 40 hc2 (by omega)
      have := y1 (by omega)
      rw [e3]
      simp only [Option.bind_some]
      rw [u64_id (n := x) (by omega) (by omega), wrap64_id (n := y - 30) (by omega) (by omega)]
      obtain ⟨r, hr, hw⟩ := round_ok (k := k) (by omega) s (x := x) (e := y - 30) (by omega) (by omega) (by omega) (by omega)
      rw [hr]
      exact ⟨_, _, _, rfl, hw, hc3⟩
    · rw [if_neg c3]
      by_cases c4 : q = 4
      · rw [if_pos c4]
        obtain ⟨x, i1, h1, e1, _, _, hc1⟩ := below_ok h 2048 hc (by omega)
        rw [e1]
        simp only [Option.bind_some]
        obtain ⟨y, i2, h2, e2, _, _, hc2⟩ := below_ok h1 4 hc1 (by omega)
        rw [e2]
        exact ⟨_, _, _, rfl, wrapW _, hc2⟩
      · rw [if_neg c4]
        by_cases c5 : q = 5
        · rw [if_pos c5]
          obtain ⟨s, i1, h1, e1, hc1⟩ := once_ok h 2 hc (by omega)
          rw [e1]
          simp only [Option.bind_some]
          obtain ⟨x, i2, h2, e2, ⟨x0, x1⟩, hc2⟩ := bits_ok h1 hc1
          rw [e2]
          simp only [Option.bind_some]
          obtain ⟨y, i3, h3, e3, y0, y1, hc3⟩ := below_ok h2 120 hc2 (by omega)
          have := y1 (by omega)
          rw [e3]
          simp only [Option.bind_some]
          rw [tdiv_pos x0, u64_id (n := x / 2048) (by omega) (by omega), wrap64_id (n := y - 80) (by omega) (by omega)]
          obtain ⟨r, hr, hw⟩ := round_ok (k := k) (by omega) s (x := x / 2048) (e := y - 80) (by omega) (by omega) (by omega) (by omega)
          rw [hr]
          exact ⟨_, _, _, rfl, hw, hc3⟩
        · rw [if_neg c5]
          obtain ⟨x, i2, h2, e2, hw, hc2⟩ := bits_ok h hc
          rw [e2]
          exact ⟨_, _, _, rfl, hw, hc2⟩
def edges : List Int := [0, 9223372036854775808, 1, 2, 4503599627370495, 4503599627370496, 4503599627370497, 9218868437227405312, 9218868437227405311, 9218868437227405310, 9221120237041090560, 9221120237041090561, IntKind.u64.wrap (9218868437227405312 + 9223372036854775808), IntKind.u64.wrap (9221120237041090560 + 9223372036854775808), 9218868437227405313, 4607182418800017408, 4607182418800017409]
theorem edges_ok : ∀ n : Fin 17, 0 ≤ edges.getD n.val 0 ∧ edges.getD n.val 0 < 18446744073709551616 := by decide +kernel
theorem number_ok {b : List Int} {i : Int} (h : Int) (hc : Cur b i) {k : Nat} (hk : 300 ≤ k) : ∃ x i' h', spec_l03Number.f k b i h = some (x, i', h') ∧ W x ∧ Cur b i' := by
  unfold spec_l03Number.f
  obtain ⟨x, i1, h1, e1, x0, x1, hc1⟩ := below_ok h 8 hc (by omega)
  rw [e1]
  simp only [Option.bind_some]
  by_cases c0 : x = 0
  · rw [if_pos c0, pow63 (by omega)]
    simp only [Option.bind_some]
    obtain ⟨y, i2, h2, e2, y0, y1, hc2⟩ := below_ok h1 (edges.length : Int) hc1 (by decide)
    have y2 := y1 (by decide)
    have hl : (edges.length : Int) = 17 := by decide
    have he : spec_l01Below.f b i1 h1 (edges.length : Int) = some (y, i2, h2) := e2
    refine ⟨rd edges y, i2, h2, ?_, ?_, hc2⟩
    · show (spec_l01Below.f b i1 h1 (edges.length : Int)).bind _ = _
      rw [he]
      simp only [Option.bind_some]
      rw [if_pos y0]
      exact if_pos y2
    · have := edges_ok ⟨y.toNat, by omega⟩
      exact this
  · rw [if_neg c0]
    by_cases c1 : x = 1
    · rw [if_pos c1]
      exact j0_ok h1 x _ hc1 hk
    · rw [if_neg c1]
      exact j0_ok h1 x _ hc1 hk
theorem draw_ok (b : List Int) (hb : b.length ≤ 1048576) {k : Nat} (hk : 1048577 ≤ k) : ∃ x y z, spec_DrawNumbers.f k b = some (x, y, z) ∧ W x ∧ W y ∧ W z := by
  unfold spec_DrawNumbers.f
  obtain ⟨h, e, hc⟩ := new_ok b hb hk
  rw [e]
  simp only [Option.bind_some]
  obtain ⟨x, i1, h1, e1, w1, hc1⟩ := number_ok h hc (k := k) (by omega)
  rw [e1]
  simp only [Option.bind_some]
  obtain ⟨y, i2, h2, e2, w2, hc2⟩ := number_ok h1 hc1 (k := k) (by omega)
  rw [e2]
  simp only [Option.bind_some]
  obtain ⟨z, i3, h3, e3, w3, hc3⟩ := number_ok h2 hc2 (k := k) (by omega)
  rw [e3]
  exact ⟨x, y, z, rfl, w1, w2, w3⟩
theorem iparts_up {x : Int} (h : W x) (n : Nat) : impl_PartsOfNumber.f (100 + n) x = some (PN x) := by
  induction n with
  | zero => exact P.impl_parts h.1 h.2
  | succ n ih => exact impl_PartsOfNumber.mono x (100 + n) _ ih
theorem sparts_up {x : Int} (h : W x) (n : Nat) : spec_PartsOfNumber.f (100 + n) x = some (PN x) := by
  induction n with
  | zero => exact P.spec_parts h.1 h.2
  | succ n ih => exact spec_PartsOfNumber.mono x (100 + n) _ ih
theorem whole_up (n : Nat) : laws_whole.f (400 + n) 1 = some 4607182418800017408 := by
  induction n with
  | zero => decide +kernel
  | succ n ih => exact laws_whole.mono 1 (400 + n) _ ih
theorem iparts_k {x : Int} (h : W x) {k : Nat} (hk : 100 ≤ k) : impl_PartsOfNumber.f k x = some (PN x) := by
  obtain ⟨n, rfl⟩ : ∃ n, k = 100 + n := ⟨k - 100, by omega⟩
  exact iparts_up h n
theorem sparts_k {x : Int} (h : W x) {k : Nat} (hk : 100 ≤ k) : spec_PartsOfNumber.f k x = some (PN x) := by
  obtain ⟨n, rfl⟩ : ∃ n, k = 100 + n := ⟨k - 100, by omega⟩
  exact sparts_up h n
theorem whole_k {k : Nat} (hk : 400 ≤ k) : laws_whole.f k 1 = some 4607182418800017408 := by
  obtain ⟨n, rfl⟩ : ∃ n, k = 400 + n := ⟨k - 400, by omega⟩
  exact whole_up n
theorem one_k {k : Nat} (hk : 100 ≤ k) : impl_RoundTo.f k false 1 0 false = some 4607182418800017408 := by
  obtain ⟨n, rfl⟩ : ∃ n, k = 100 + n := ⟨k - 100, by omega⟩
  induction n with
  | zero => decide +kernel
  | succ n ih => exact impl_RoundTo.mono false 1 0 false (100 + n) _ (ih (by omega))
theorem step (l : List Int) (j : Nat) (hj : j < 3) (hl : l.length = 3) (hw : W (l.getD j 0)) {k : Nat} (hk : 1000 ≤ k) : laws_FnParts.l0 (k + 1) l (j : Int) = laws_FnParts.l0 k l ((j + 1 : Nat) : Int) := by
  have hr : rd l (j : Int) = l.getD j 0 := by unfold rd; rw [Int.toNat_natCast]
  have hs : wrap64 ((j : Int) + 1) = ((j + 1 : Nat) : Int) := by rw [wrap64_id (by omega) (by omega)]; rfl
  simp only [laws_FnParts.l0]
  rw [if_pos (by omega), if_pos (by omega), if_pos (by omega)]
  rw [hr, hs, iparts_k hw (by omega), sparts_k hw (by omega)]
  simp only [Option.bind_some, beq_self_eq_true, Bool.not_true, Bool.or_false, Bool.false_eq_true, if_false]
  by_cases c : (PN (l.getD j 0)).1 = 4
  · rw [if_pos c]
    obtain ⟨hf, hv⟩ := parts_fin hw.1 hw.2 c
    obtain ⟨q, rfl⟩ : ∃ q, k = q + 5 := ⟨k - 5, by omega⟩
    rw [round0 _ _ hf, hv]
    simp only [Option.bind_some, if_true]
    rw [round1 _ _ hf, hv]
    simp only [Option.bind_some, if_true]
    rw [round8 _ _ hf, hv]
    simp only [Option.bind_some, if_true]
  · rw [if_neg c]
theorem fin_ok (l : List Int) {k : Nat} (hk : 1000 ≤ k) : laws_FnParts.l0 (k + 1) l 3 = some true := by
  simp only [laws_FnParts.l0]
  rw [if_neg (by omega), whole_k (by omega)]
  simp only [Option.bind_some]
  rw [iparts_k (x := 4607182418800017408) ⟨by omega, by omega⟩ (by omega)]
  simp only [Option.bind_some]
  rw [if_pos (by decide +kernel), one_k (by omega)]
  rfl
theorem law (b : List Int) : ∃ k, laws_FnParts.f k b = some true := by
  unfold laws_FnParts.f laws_big.f
  by_cases c : (b.length : Int) > 1048576
  · exact ⟨0, by simp [c]⟩
  · obtain ⟨q, hq⟩ : ∃ q : Nat, 1048577 ≤ q := ⟨1048577, Nat.le_refl _⟩
    refine ⟨q + 4, ?_⟩
    simp only [decide_eq_false c, Option.bind_some, Bool.false_eq_true, if_false]
    obtain ⟨x, y, z, e, w1, w2, w3⟩ := draw_ok b (by omega) (k := q + 4) (by omega)
    rw [e]
    simp only [Option.bind_some]
    have s0 := step [x, y, z] 0 (by omega) rfl w1 (k := q + 3) (by omega)
    have s1 := step [x, y, z] 1 (by omega) rfl w2 (k := q + 2) (by omega)
    have s2 := step [x, y, z] 2 (by omega) rfl w3 (k := q + 1) (by omega)
    exact s0.trans (s1.trans (s2.trans (fin_ok _ (k := q) (by omega))))
end Go.Proofs.Ytdgjbpefbkgnpaa.Pure.FnParts
