/- Part 9 of the proof: general lemmas, contracts of functions, walks. No condition of its own. -/
import Derived.Test.YtlhfhfamifmijaaProg
import Derived.Laws.BitsAllLaws
import Derived.Laws.Bits64
import Derived.RowKit
import Derived.WalkKit
import Derived.KernelRfl
import Derived.Deep.LoopGhost
import Derived.Deep.QuietTactic
import Derived.BigQuiet
import Derived.RowKit3
import Derived.Deep.RegionWith
import Derived.Deep.RegionHeld3
import Derived.WalkLawsBesides
import Derived.Test.YtlhfhfamifmijaaK1
import Derived.Test.YtlhfhfamifmijaaK8
import Derived.Test.YtlhfhfamifmijaaK5
section
namespace Go.Proofs.Ytlhfhfamifmijaa
open Go.RowKit Go.Proofs.YtlhfhfamifmijaaW.PrintWords Go.Proofs.YtlhfhfamifmijaaW.PrintMore
set_option linter.unusedVariables false
theorem kd_at {α : Type} {d : Kd α} {w : World} {A : Option Addr} {l : List α} (z : α) (h : d.C w A l.length l) (j : Nat) (hj : j < l.length) : ∃ a c, A = some a ∧ d.K w (l.getD j z) c ∧ ∀ i u, c[i]? = some u → w.cell? (a.add (j * d.sz + i)) = some u := by
  obtain ⟨a, c, e, _, hK, hc⟩ := Kd.C_get h z (j : Int) (by omega) (by omega)
  exact ⟨a, c, e, by simpa using hK, by simpa using hc⟩
/-- The element at a place, a given one beyond. -/
def el {α : Type} (z : α) (l : List α) (j : Nat) : α := l.getD j z
theorem el_lt {α : Type} (z : α) {l : List α} {j : Nat} (h : j < l.length) : el z l j = l[j] := by simp [el, h]
theorem el_mem {α : Type} (z : α) {l : List α} {j : Nat} (h : j < l.length) : el z l j ∈ l := by rw [el_lt z h]; exact List.getElem_mem h
theorem el_ext {α : Type} (z : α) {l m : List α} (hl : l.length = m.length) (h : ∀ i : Nat, i < l.length → el z l i = el z m i) : l = m := by
  apply List.ext_getElem hl
  intro i h1 h2
  have := h i h1
  rwa [el_lt z h1, el_lt z h2] at this
theorem rd_el (l : List Int) (j : Nat) : rd l (j : Int) = el 0 l j := by simp [rd, el]
theorem int_at {w : World} {k : IntKind} {A : Option Addr} {l : List Int} (h : (Kd.int k).C w A l.length l) (j : Nat) (hj : j < l.length) : ∃ a, A = some a ∧ w.cell? (a.add j) = some (.int k (el 0 l j)) := by
  obtain ⟨a, e, hc⟩ := Kd.at_int h (j : Int) (by omega) (by omega)
  exact ⟨a, e, by rw [← rd_el]; simpa using hc⟩
theorem string_at {w : World} {A : Option Addr} {l : List ByteArray} (h : Kd.string.C w A l.length l) (j : Nat) (hj : j < l.length) : ∃ a, A = some a ∧ w.cell? (a.add j) = some (.string (el ByteArray.empty l j)) := by
  obtain ⟨a, c, e, hK, hc⟩ := kd_at ByteArray.empty h j hj
  have hc' : c = [.string (el ByteArray.empty l j)] := hK
  subst hc'
  exact ⟨a, e, by simpa [Kd.string, Kd.scalar] using hc 0 _ rfl⟩
structure Ins where
  op : Int
  a : Int
  b : Int
  deriving DecidableEq
structure Cap where
  reg : Bool
  index : Int
  deriving DecidableEq
structure Handler where
  from_ : Int
  to_ : Int
  target : Int
  deriving DecidableEq
structure Func where
  params : Int
  regs : Int
  caps : List Cap
  code : List Ins
  handlers : List Handler
  deriving DecidableEq
end Go.Proofs.Ytlhfhfamifmijaa
end
section
namespace Go.Proofs.Ytlhfhfamifmijaa.Law
open Go.RowKit Go.Proofs.YtlhfhfamifmijaaW.PrintWords Go.Proofs.YtlhfhfamifmijaaW.PrintMore
set_option linter.unusedVariables false
theorem bytes_ext {a b : ByteArray} (h : a.toList = b.toList) : a = b := by
  have e : ∀ x : ByteArray, x.toList = x.data.toList := fun x => ByteArray.toList_eq x
  rw [e, e] at h
  cases a
  cases b
  congr
  exact Array.ext' h
/-- A kind's reading, behind a draw. -/
theorem Kd.K_drew0 {α : Type} {d : Kd α} {w : World} {x : α} {cs : List Value} (h : d.K w x cs) : d.K w.drew x cs := d.K_below (below_drew1 (Below.refl _ _)) h
/-- From w on only new memory was written; the boxes of the list hold what it says. -/
structure At (w W : World) (L : List (Nat × Array Value × TypeId)) : Prop where
  below : Below w.heap.size w W
  box : ∀ b ∈ L, W.heap[b.1]? = some (.cells b.2.1 b.2.2 (0, 0))
theorem At.step {w W W2 : World} {L : List (Nat × Array Value × TypeId)} (h : At w W L) (hb : Below W.heap.size W W2) : At w W2 L := ⟨below_step h.below hb, fun b hm => blk_below (h.box b hm) hb⟩
theorem At.draw {w W : World} {L : List (Nat × Array Value × TypeId)} (h : At w W L) (n : Nat) : At w (W.drewN n) L := ⟨pw_below_drewN h.below n, fun b hm => h.box b hm⟩
theorem At.drew {w W : World} {L : List (Nat × Array Value × TypeId)} (h : At w W L) : At w W.drew L := ⟨below_drew1 h.below, fun b hm => h.box b hm⟩
theorem At.start (w : World) : At w w [] := ⟨Below.refl _ _, fun b hm => by cases hm⟩
theorem At.alloc {w W : World} {L : List (Nat × Array Value × TypeId)} (h : At w W L) (cs : Array Value) (t : TypeId) : At w (W.alloc (.cells cs t)) ((W.heap.size, cs, t) :: L) := by
  refine ⟨below_alloc h.below _, fun b hm => ?_⟩
  rcases List.mem_cons.1 hm with rfl | hm
  · exact blk_new W _
  · exact blk_alloc (h.box b hm) _
theorem At.cell {w W : World} {L : List (Nat × Array Value × TypeId)} (h : At w W L) {g : Nat} {cs : Array Value} {t : TypeId} (hm : (g, cs, t) ∈ L) : ∀ o, W.cell? ⟨g, o, none⟩ = cs[o]? := fun o => blk_cell (h.box _ hm) o
theorem At.cell0 {w W : World} {L : List (Nat × Array Value × TypeId)} {g : Nat} {cs : Array Value} {t : TypeId} (h : At w W ((g, cs, t) :: L)) : ∀ o, W.cell? ⟨g, o, none⟩ = cs[o]? := h.cell (t := t) (by simp)
theorem At.cell1 {w W : World} {L : List (Nat × Array Value × TypeId)} {b0 : Nat × Array Value × TypeId} {g : Nat} {cs : Array Value} {t : TypeId} (h : At w W (b0 :: (g, cs, t) :: L)) : ∀ o, W.cell? ⟨g, o, none⟩ = cs[o]? := h.cell (t := t) (by simp)
theorem At.free {w W : World} {L : List (Nat × Array Value × TypeId)} (h : At w W L) {g : Nat} {cs : Array Value} {t : TypeId} (hm : (g, cs, t) ∈ L) : ∀ o, W.frozen? ⟨g, o, none⟩ = false := fun o => blk_frozen (h.box _ hm) o
theorem At.reads {α : Type} {d : Kd α} {w W : World} {L : List (Nat × Array Value × TypeId)} {A : Option Addr} {n : Nat} {xs : List α} (h : At w W L) (hr : d.C w A n xs) : d.C W A n xs := Kd.C_below hr h.below
theorem At.mono {w W : World} {L L' : List (Nat × Array Value × TypeId)} (h : At w W L) (hs : ∀ b ∈ L', b ∈ L) : At w W L' := ⟨h.below, fun b hm => h.box b (hs b hm)⟩
end Go.Proofs.Ytlhfhfamifmijaa.Law
end
section
namespace Go.Proofs.Ytlhfhfamifmijaa.Num
open Go.RowKit
set_option linter.unusedVariables false
set_option linter.unusedSimpArgs false
theorem wrap64_id {n : Int} (h0 : -9223372036854775808 ≤ n) (h1 : n ≤ 9223372036854775807) : wrap64 n = n := by unfold wrap64; omega
theorem u64_id {n : Int} (h0 : 0 ≤ n) (h1 : n < 18446744073709551616) : IntKind.u64.wrap n = n := by rw [IntKind.wrap_u64]; omega
theorem tdiv_pos {a b : Int} (h : 0 ≤ a) : Int.tdiv a b = a / b := Int.tdiv_eq_ediv_of_nonneg h
theorem tmod_pos {a b : Int} (h : 0 ≤ a) : Int.tmod a b = a % b := Int.tmod_eq_emod_of_nonneg h
theorem and_mask (i m : Nat) (hm : m = 2 ^ i - 1) (hi : m < 18446744073709551616) {a : Int} (h0 : 0 ≤ a) (h1 : a < 18446744073709551616) : Go.bits .and .u64 a (m : Int) = a % ((2 ^ i : Nat) : Int) := by
  rw [u64_and a (m : Int) h0 h1 (by omega) (by omega)]
  rw [show ((m : Int)).toNat = 2 ^ i - 1 by omega, Nat.and_two_pow_sub_one_eq_mod]
  rw [Int.natCast_emod]
  congr 1
  omega
theorem and_63 {a : Int} (h0 : 0 ≤ a) (h1 : a < 18446744073709551616) : Go.bits .and .u64 a 9223372036854775807 = a % 9223372036854775808 := and_mask 63 9223372036854775807 (by decide) (by decide) h0 h1
theorem wf_u64 {n : Int} (h : (Lit.int .u64 n).wf = true) : 0 ≤ n ∧ n < 18446744073709551616 := by
  simp only [Lit.wf, Bool.and_eq_true, decide_eq_true_eq] at h
  have h1 : IntKind.u64.min = 0 := rfl
  have h2 : IntKind.u64.max = 18446744073709551615 := rfl
  omega
/-- A number's parts: kind, sign, mantissa, exponent. -/
def PN (x : Int) : Int × Bool × Int × Int :=
  if x / 4503599627370496 % 2048 = 2047 then (if x % 4503599627370496 = 0 then (2, (x / 9223372036854775808) == 1, 0, 0) else (1, false, 0, 0))
  else if x / 4503599627370496 % 2048 = 0 then (if x % 4503599627370496 = 0 then (3, (x / 9223372036854775808) == 1, 0, 0) else (4, (x / 9223372036854775808) == 1, x % 4503599627370496, -1074))
  else (4, (x / 9223372036854775808) == 1, x % 4503599627370496 + 4503599627370496, x / 4503599627370496 % 2048 - 1075)
end Go.Proofs.Ytlhfhfamifmijaa.Num
end
section
namespace Go.Proofs.Ytlhfhfamifmijaa
open Go.RowKit Go.Proofs.YtlhfhfamifmijaaW.PrintWords Go.Proofs.YtlhfhfamifmijaaW.PrintMore
set_option linter.unusedVariables false
structure Node where
  kind : Int
  a : Int
  b : Int
  c : Int
  list : List Int
  names : List ByteArray
  num : Int
  at_ : Int
  deriving DecidableEq
def zNode : Node := ⟨0, 0, 0, 0, [], [], 0, 0⟩
def kNodeL : Kd Node := Kd.iso (Kd.pair (Kd.int .i64) (Kd.pair (Kd.int .i64) (Kd.pair (Kd.int .i64) (Kd.pair (Kd.int .i64) (Kd.pair (Kd.slice 3 (Kd.int .i64)) (Kd.pair (Kd.slice 9 Kd.string) (Kd.pair (Kd.int .u64) (Kd.int .i64)))))))) (fun x : Node => (x.kind, x.a, x.b, x.c, x.list, x.names, x.num, x.at_))
theorem kNodeL_open {w : World} {x : Node} {cs : List Value} (h : kNodeL.K w x cs) : ∃ A4 c4 A5 c5, cs = [.int .i64 x.kind, .int .i64 x.a, .int .i64 x.b, .int .i64 x.c, .slice A4 x.list.length c4, .slice A5 x.names.length c5, .int .u64 x.num, .int .i64 x.at_] ∧ x.list.length ≤ c4 ∧ (Kd.int .i64).C w A4 x.list.length x.list ∧ x.names.length ≤ c5 ∧ Kd.string.C w A5 x.names.length x.names := by
  obtain ⟨_, _, rfl, rfl, ⟨_, _, rfl, rfl, ⟨_, _, rfl, rfl, ⟨_, _, rfl, rfl, ⟨_, _, rfl, ⟨A4, c4, rfl, l4, g4⟩, ⟨_, _, rfl, ⟨A5, c5, rfl, l5, g5⟩, ⟨_, _, rfl, rfl, rfl⟩⟩⟩⟩⟩⟩⟩ := h
  exact ⟨A4, c4, A5, c5, rfl, l4, g4, l5, g5⟩
theorem NodeL_at {w : World} {A : Option Addr} {l : List Node} (h : kNodeL.C w A l.length l) (j : Nat) (hj : j < l.length) : ∃ a A4 c4 A5 c5, A = some a ∧ kNodeL.K w (el zNode l j) [.int .i64 (el zNode l j).kind, .int .i64 (el zNode l j).a, .int .i64 (el zNode l j).b, .int .i64 (el zNode l j).c, .slice A4 (el zNode l j).list.length c4, .slice A5 (el zNode l j).names.length c5, .int .u64 (el zNode l j).num, .int .i64 (el zNode l j).at_] ∧ w.cell? (a.add (j * 8)) = some (.int .i64 (el zNode l j).kind) ∧ w.cell? ⟨(a.add (j * 8)).block, (a.add (j * 8)).off + 1, none⟩ = some (.int .i64 (el zNode l j).a) ∧ w.cell? ⟨(a.add (j * 8)).block, (a.add (j * 8)).off + 2, none⟩ = some (.int .i64 (el zNode l j).b) ∧ w.cell? ⟨(a.add (j * 8)).block, (a.add (j * 8)).off + 3, none⟩ = some (.int .i64 (el zNode l j).c) ∧ w.cell? ⟨(a.add (j * 8)).block, (a.add (j * 8)).off + 4, none⟩ = some (.slice A4 (el zNode l j).list.length c4) ∧ w.cell? ⟨(a.add (j * 8)).block, (a.add (j * 8)).off + 5, none⟩ = some (.slice A5 (el zNode l j).names.length c5) ∧ w.cell? ⟨(a.add (j * 8)).block, (a.add (j * 8)).off + 6, none⟩ = some (.int .u64 (el zNode l j).num) ∧ w.cell? ⟨(a.add (j * 8)).block, (a.add (j * 8)).off + 7, none⟩ = some (.int .i64 (el zNode l j).at_) := by
  obtain ⟨a, c, e, hK, hc0⟩ := kd_at zNode h j hj
  have hc : ∀ i u, c[i]? = some u → w.cell? (a.add (j * 8 + i)) = some u := hc0
  obtain ⟨A4, c4, A5, c5, rfl, l4, g4, l5, g5⟩ := kNodeL_open hK
  exact ⟨a, A4, c4, A5, c5, e, hK, hc 0 _ rfl, by rw [← add_field _ _ 1 (by omega)]; exact hc 1 _ rfl, by rw [← add_field _ _ 2 (by omega)]; exact hc 2 _ rfl, by rw [← add_field _ _ 3 (by omega)]; exact hc 3 _ rfl, by rw [← add_field _ _ 4 (by omega)]; exact hc 4 _ rfl, by rw [← add_field _ _ 5 (by omega)]; exact hc 5 _ rfl, by rw [← add_field _ _ 6 (by omega)]; exact hc 6 _ rfl, by rw [← add_field _ _ 7 (by omega)]; exact hc 7 _ rfl⟩
def kNodeI : Kd Node := Kd.iso (Kd.pair (Kd.int .i64) (Kd.pair (Kd.int .i64) (Kd.pair (Kd.int .i64) (Kd.pair (Kd.int .i64) (Kd.pair (Kd.slice 3 (Kd.int .i64)) (Kd.pair (Kd.slice 9 Kd.string) (Kd.pair (Kd.int .u64) (Kd.int .i64)))))))) (fun x : Node => (x.kind, x.a, x.b, x.c, x.list, x.names, x.num, x.at_))
theorem kNodeI_open {w : World} {x : Node} {cs : List Value} (h : kNodeI.K w x cs) : ∃ A4 c4 A5 c5, cs = [.int .i64 x.kind, .int .i64 x.a, .int .i64 x.b, .int .i64 x.c, .slice A4 x.list.length c4, .slice A5 x.names.length c5, .int .u64 x.num, .int .i64 x.at_] ∧ x.list.length ≤ c4 ∧ (Kd.int .i64).C w A4 x.list.length x.list ∧ x.names.length ≤ c5 ∧ Kd.string.C w A5 x.names.length x.names := by
  obtain ⟨_, _, rfl, rfl, ⟨_, _, rfl, rfl, ⟨_, _, rfl, rfl, ⟨_, _, rfl, rfl, ⟨_, _, rfl, ⟨A4, c4, rfl, l4, g4⟩, ⟨_, _, rfl, ⟨A5, c5, rfl, l5, g5⟩, ⟨_, _, rfl, rfl, rfl⟩⟩⟩⟩⟩⟩⟩ := h
  exact ⟨A4, c4, A5, c5, rfl, l4, g4, l5, g5⟩
theorem kNodeI_openM {w : World} {base : Nat} {ok : Nat → Prop} {x : Node} {cs : List Value} (h : kNodeI.M w base ok x cs) : ∃ v4 v5, cs = [.int .i64 x.kind, .int .i64 x.a, .int .i64 x.b, .int .i64 x.c, v4, v5, .int .u64 x.num, .int .i64 x.at_] ∧ (Kd.int .i64).R 3 w base ok v4 x.list ∧ Kd.string.R 9 w base ok v5 x.names := by
  obtain ⟨_, _, rfl, rfl, ⟨_, _, rfl, rfl, ⟨_, _, rfl, rfl, ⟨_, _, rfl, rfl, ⟨_, _, rfl, ⟨v4, rfl, g4⟩, ⟨_, _, rfl, ⟨v5, rfl, g5⟩, ⟨_, _, rfl, rfl, rfl⟩⟩⟩⟩⟩⟩⟩ := h
  exact ⟨v4, v5, rfl, g4, g5⟩
theorem kNodeI_mkM (w : World) (base : Nat) (ok : Nat → Prop) (x : Node) {v4 : Value} (g4 : (Kd.int .i64).R 3 w base ok v4 x.list) {v5 : Value} (g5 : Kd.string.R 9 w base ok v5 x.names) : kNodeI.M w base ok x [.int .i64 x.kind, .int .i64 x.a, .int .i64 x.b, .int .i64 x.c, v4, v5, .int .u64 x.num, .int .i64 x.at_] := ⟨_, _, rfl, rfl, ⟨_, _, rfl, rfl, ⟨_, _, rfl, rfl, ⟨_, _, rfl, rfl, ⟨_, _, rfl, ⟨_, rfl, g4⟩, ⟨_, _, rfl, ⟨_, rfl, g5⟩, ⟨_, _, rfl, rfl, rfl⟩⟩⟩⟩⟩⟩⟩
theorem NodeI_at {w : World} {A : Option Addr} {l : List Node} (h : kNodeI.C w A l.length l) (j : Nat) (hj : j < l.length) : ∃ a A4 c4 A5 c5, A = some a ∧ kNodeI.K w (el zNode l j) [.int .i64 (el zNode l j).kind, .int .i64 (el zNode l j).a, .int .i64 (el zNode l j).b, .int .i64 (el zNode l j).c, .slice A4 (el zNode l j).list.length c4, .slice A5 (el zNode l j).names.length c5, .int .u64 (el zNode l j).num, .int .i64 (el zNode l j).at_] ∧ w.cell? (a.add (j * 8)) = some (.int .i64 (el zNode l j).kind) ∧ w.cell? ⟨(a.add (j * 8)).block, (a.add (j * 8)).off + 1, none⟩ = some (.int .i64 (el zNode l j).a) ∧ w.cell? ⟨(a.add (j * 8)).block, (a.add (j * 8)).off + 2, none⟩ = some (.int .i64 (el zNode l j).b) ∧ w.cell? ⟨(a.add (j * 8)).block, (a.add (j * 8)).off + 3, none⟩ = some (.int .i64 (el zNode l j).c) ∧ w.cell? ⟨(a.add (j * 8)).block, (a.add (j * 8)).off + 4, none⟩ = some (.slice A4 (el zNode l j).list.length c4) ∧ w.cell? ⟨(a.add (j * 8)).block, (a.add (j * 8)).off + 5, none⟩ = some (.slice A5 (el zNode l j).names.length c5) ∧ w.cell? ⟨(a.add (j * 8)).block, (a.add (j * 8)).off + 6, none⟩ = some (.int .u64 (el zNode l j).num) ∧ w.cell? ⟨(a.add (j * 8)).block, (a.add (j * 8)).off + 7, none⟩ = some (.int .i64 (el zNode l j).at_) := by
  obtain ⟨a, c, e, hK, hc0⟩ := kd_at zNode h j hj
  have hc : ∀ i u, c[i]? = some u → w.cell? (a.add (j * 8 + i)) = some u := hc0
  obtain ⟨A4, c4, A5, c5, rfl, l4, g4, l5, g5⟩ := kNodeI_open hK
  exact ⟨a, A4, c4, A5, c5, e, hK, hc 0 _ rfl, by rw [← add_field _ _ 1 (by omega)]; exact hc 1 _ rfl, by rw [← add_field _ _ 2 (by omega)]; exact hc 2 _ rfl, by rw [← add_field _ _ 3 (by omega)]; exact hc 3 _ rfl, by rw [← add_field _ _ 4 (by omega)]; exact hc 4 _ rfl, by rw [← add_field _ _ 5 (by omega)]; exact hc 5 _ rfl, by rw [← add_field _ _ 6 (by omega)]; exact hc 6 _ rfl, by rw [← add_field _ _ 7 (by omega)]; exact hc 7 _ rfl⟩
end Go.Proofs.Ytlhfhfamifmijaa
end
section
namespace Go.Proofs.Ytlhfhfamifmijaa
open Go.RowKit Go.Proofs.YtlhfhfamifmijaaW.PrintWords Go.Proofs.YtlhfhfamifmijaaW.PrintMore Go.Proofs.Ytlhfhfamifmijaa.Law Go.Proofs.Ytlhfhfamifmijaa.Num
set_option linter.unusedVariables false
set_option linter.unusedSimpArgs false
/-- What is left of a purse: -1 where it does not do. -/
def sub (left : Int) (n : Nat) : Int := if left < n then -1 else left - n
def sizeIntS (l : List Int) : Nat := l.length
theorem szIntS (A : Option Addr) (c : Nat) (l : List Int) (left : Int) (w : World) (hr : (Kd.int .i64).C w A l.length l) (h0 : 0 ≤ left) (h1 : left ≤ 1048576) :
    Calls Try.prog 64 #[.slice A l.length c, .int .i64 left] w fun e w' => e = .returned (.int .i64 (sub left (sizeIntS l))) ∧ Drawn0 w w' := by
  have hL : l.length ≤ 9223372036854775807 := hr.2.1
  unfold sizeIntS sub
  clear hr
  by_cases h : left < (l.length : Int)
  · rw [if_pos h]
    have d1 : decide (left - (l.length : Int) < 0) = true := by simp; omega
    have d2 : decide (left < (l.length : Int)) = true := by simp; omega
    go_enter Try.func64, Try.ntmps64
    go_wp2
    go_ret
    exact ⟨rfl, Drawn0.refl _⟩
  · rw [if_neg h]
    have d1 : decide (left - (l.length : Int) < 0) = false := by simp; omega
    have d2 : decide (left < (l.length : Int)) = false := by simp; omega
    go_enter Try.func64, Try.ntmps64
    go_wp2
    go_ret
    exact ⟨rfl, Drawn0.refl _⟩
def GoodStr (s : ByteArray) : Prop := s.size ≤ maxLen
def sizeStringS (l : List ByteArray) : Nat := l.length + (l.map ByteArray.size).sum
theorem sizeStringS_take (l : List ByteArray) (j : Nat) (h : j < l.length) : ((l.take (j + 1)).map ByteArray.size).sum = ((l.take j).map ByteArray.size).sum + (el ByteArray.empty l j).size := by
  rw [List.take_succ_eq_append_getElem h, List.map_append, List.sum_append, el_lt ByteArray.empty h]
  simp
theorem sizeStringS_le (l : List ByteArray) (j : Nat) : ((l.take j).map ByteArray.size).sum ≤ (l.map ByteArray.size).sum := by
  have h : ((l.take j ++ l.drop j).map ByteArray.size).sum = (l.map ByteArray.size).sum := by rw [List.take_append_drop]
  rw [List.map_append, List.sum_append] at h
  omega
set_option maxHeartbeats 4000000 in
set_option maxRecDepth 100000 in
theorem szStringS (A : Option Addr) (c : Nat) (l : List ByteArray) (left : Int) (w : World) (hr : Kd.string.C w A l.length l) (hgood : ∀ y ∈ l, GoodStr y) (h0 : 0 ≤ left) (h1 : left ≤ 1048576) :
    Calls Try.prog 154 #[.slice A l.length c, .int .i64 left] w fun e w' => e = .returned (.int .i64 (sub left (sizeStringS l))) ∧ Below w.heap.size w w' := by
  have hL : l.length ≤ 9223372036854775807 := hr.2.1
  have HR := Aside0.mk hr; have HG := Aside0.mk hgood; clear hr hgood
  by_cases h : left < (l.length : Int)
  · have hfin : sub left (sizeStringS l) = -1 := by unfold sub sizeStringS; rw [if_pos (by omega)]
    rw [hfin]; clear hfin
    have d1 : decide (left - (l.length : Int) < 0) = true := by simp; omega
    have d2 : decide (left < (l.length : Int)) = true := by simp; omega
    go_enter Try.func154, Try.ntmps154
    go_wp2
    go_ret
    exact ⟨rfl, Below.refl _ _⟩
  · have d1 : decide (left - (l.length : Int) < 0) = false := by simp; omega
    have d2 : decide (left < (l.length : Int)) = false := by simp; omega
    go_enter Try.func154, Try.ntmps154
    go_wp2
    go_loopw [1, 5] (fun u v wr => ∃ (j : Nat) (r : Int), v = .int .i64 j ∧ u = .int .i64 r ∧ j ≤ l.length ∧ 0 ≤ r ∧ r ≤ 1048576 ∧ Aside0 (r = left - (l.length : Int) - (((l.take j).map ByteArray.size).sum : Nat)) ∧ Aside0 (Below w.heap.size w wr)) (fun _ v _ => l.length - (intOf v).toNat)
    case atStart => exact ⟨0, left - (l.length : Int), rfl, rfl, by omega, by omega, by omega, ⟨by simp⟩, ⟨Below.refl _ _⟩⟩
    case round =>
      obtain ⟨j, r, rfl, rfl, hj, hr0, hr1, HE, HW⟩ := hrel
      by_cases hlt : j < l.length
      · obtain ⟨pa, rfl, px0⟩ := string_at (Kd.C_below HR.out HW.out) j hlt
        have hsz := HG.out _ (el_mem ByteArray.empty hlt)
        unfold GoodStr maxLen at hsz
        have i1 : (0 : Int) ≤ (j : Int) := by omega
        have i2 : (j : Int) < (l.length : Int) := by omega
        have HT := Aside0.mk (sizeStringS_take l j hlt); have HM := Aside0.mk (sizeStringS_le l (j + 1))
        by_cases c0 : r < ((el ByteArray.empty l j).size : Int)
        · have hfin : sub left (sizeStringS l) = -1 := by unfold sub sizeStringS; rw [if_pos (by have := HE.out; have := HT.out; have := HM.out; omega)]
          have HF := Aside0.mk hfin; clear hfin
          have d3 : decide (r - ((el ByteArray.empty l j).size : Int) < 0) = true := by simp; omega
          have d4 : decide (r < ((el ByteArray.empty l j).size : Int)) = true := by simp; omega
          go_wp2
          go_ret
          exact ⟨by rw [HF.out]; rfl, HW.out⟩
        · have d3 : decide (r - ((el ByteArray.empty l j).size : Int) < 0) = false := by simp; omega
          have d4 : decide (r < ((el ByteArray.empty l j).size : Int)) = false := by simp; omega
          go_wp2
          go_roundw
          case rel => exact ⟨j + 1, r - ((el ByteArray.empty l j).size : Int), by go_num, rfl, by omega, by omega, by omega, ⟨by have := HE.out; have := HT.out; omega⟩, HW⟩
          case measure => simp [intOf]; omega
      · have hjl : j = l.length := by omega
        have hfin : sub left (sizeStringS l) = r := by have h := HE.out; rw [hjl, List.take_length] at h; unfold sub sizeStringS; rw [if_neg (by omega)]; omega
        have HF := Aside0.mk hfin; clear hfin hjl
        go_wp2
        go_ret
        exact ⟨by rw [HF.out]; rfl, HW.out⟩
def sizeNode (x : Node) : Nat := sizeIntS x.list + sizeStringS x.names
def GoodNode (x : Node) : Prop := (∀ y ∈ x.names, GoodStr y)
set_option maxHeartbeats 4000000 in
set_option maxRecDepth 100000 in
theorem szNode (x : Node) (cs : List Value) (left : Int) (w : World) (hk : kNodeL.K w x cs) (hgood : GoodNode x) (h0 : 0 ≤ left) (h1 : left ≤ 1048576) :
    Calls Try.prog 104 #[.agg ⟨cs⟩, .int .i64 left] w fun e w' => e = .returned (.int .i64 (sub left (sizeNode x))) ∧ Below w.heap.size w w' := by
  obtain ⟨pA4, pc4, pA5, pc5, rfl, pl4, pg4, pl5, pg5⟩ := kNodeL_open hk
  have pG4 := Aside0.mk pg4; clear pg4 pl4
  have pG5 := Aside0.mk pg5; clear pg5 pl5
  clear hk
  have hu := Try.underlying141
  unfold GoodNode at hgood
  have HG := Aside0.mk hgood
  have A0 := Aside0.mk ((At.start w).alloc #[.int .i64 x.kind, .int .i64 x.a, .int .i64 x.b, .int .i64 x.c, .slice pA4 x.list.length pc4, .slice pA5 x.names.length pc5, .int .u64 x.num, .int .i64 x.at_] 141)
  obtain ⟨n0, hn0⟩ : ∃ q, q = sizeIntS x.list := ⟨_, rfl⟩
  obtain ⟨n1, hn1⟩ : ∃ q, q = sizeStringS x.names := ⟨_, rfl⟩
  have HN := Aside0.mk (show n0 = sizeIntS x.list ∧ n1 = sizeStringS x.names from ⟨hn0, hn1⟩)
  clear hn0
  clear hn1
  clear hgood
  have hsize : sizeNode x = n0 + n1 := by unfold sizeNode; have h := HN.out; omega
  rw [hsize]; have HSZ := Aside0.mk hsize; clear hsize
  by_cases c0 : left < (n0 : Int)
  · skip
    have hfin : sub left (n0 + n1) = -1 := by unfold sub; rw [if_pos (by omega)]
    rw [hfin]; clear hfin
    have s0 : sub (left) n0 = -1 := by unfold sub; rw [if_pos (by omega)]
    have S0 := Aside0.mk s0; clear s0
    go_enter Try.func104, Try.ntmps104
    go_wp2_with fail
    refine (szIntS _ _ _ (left) _ (A0.out.reads pG4.out) (by omega) (by omega)).mono ?_
    rintro e w1 ⟨rfl, hb0⟩
    rw [show sizeIntS x.list = n0 from (by have := HN.out; omega), S0.out]
    have A1 := Aside0.mk (A0.out.step (hb0.below)); clear A0 hb0; have z0 := A1.out.cell0
    go_wp2
    go_ret
    exact ⟨rfl, A1.out.below⟩
  · skip
    by_cases c1 : left - (n0 : Int) < (n1 : Int)
    · skip
      have hfin : sub left (n0 + n1) = -1 := by unfold sub; rw [if_pos (by omega)]
      rw [hfin]; clear hfin
      have s0 : sub (left) n0 = left - (n0 : Int) := by unfold sub; rw [if_neg (by omega)]
      have d0 : decide (left - (n0 : Int) < 0) = false := by simp; omega
      have g0 : 0 ≤ left - (n0 : Int) := by omega
      have S0 := Aside0.mk s0; clear s0
      have s1 : sub (left - (n0 : Int)) n1 = -1 := by unfold sub; rw [if_pos (by omega)]
      have S1 := Aside0.mk s1; clear s1
      go_enter Try.func104, Try.ntmps104
      go_wp2_with fail
      refine (szIntS _ _ _ (left) _ (A0.out.reads pG4.out) (by omega) (by omega)).mono ?_
      rintro e w1 ⟨rfl, hb0⟩
      rw [show sizeIntS x.list = n0 from (by have := HN.out; omega), S0.out]
      have A1 := Aside0.mk (A0.out.step (hb0.below)); clear A0 hb0; have z0 := A1.out.cell0
      go_wp2_with fail
      refine (szStringS _ _ _ (left - (n0 : Int)) _ (A1.out.reads pG5.out) (HG.out) (by omega) (by omega)).mono ?_
      rintro e w2 ⟨rfl, hb0⟩
      rw [show sizeStringS x.names = n1 from (by have := HN.out; omega), S1.out]
      have A2 := Aside0.mk (A1.out.step (hb0)); clear A1 hb0 z0; have z0 := A2.out.cell0
      go_wp2
      go_ret
      exact ⟨rfl, A2.out.below⟩
    · skip
      have hfin : sub left (n0 + n1) = left - n0 - n1 := by unfold sub; rw [if_neg (by omega)] <;> omega
      rw [hfin]; clear hfin
      have s0 : sub (left) n0 = left - (n0 : Int) := by unfold sub; rw [if_neg (by omega)]
      have d0 : decide (left - (n0 : Int) < 0) = false := by simp; omega
      have g0 : 0 ≤ left - (n0 : Int) := by omega
      have S0 := Aside0.mk s0; clear s0
      have s1 : sub (left - (n0 : Int)) n1 = left - (n0 : Int) - (n1 : Int) := by unfold sub; rw [if_neg (by omega)]
      have d1 : decide (left - (n0 : Int) - (n1 : Int) < 0) = false := by simp; omega
      have g1 : 0 ≤ left - (n0 : Int) - (n1 : Int) := by omega
      have S1 := Aside0.mk s1; clear s1
      go_enter Try.func104, Try.ntmps104
      go_wp2_with fail
      refine (szIntS _ _ _ (left) _ (A0.out.reads pG4.out) (by omega) (by omega)).mono ?_
      rintro e w1 ⟨rfl, hb0⟩
      rw [show sizeIntS x.list = n0 from (by have := HN.out; omega), S0.out]
      have A1 := Aside0.mk (A0.out.step (hb0.below)); clear A0 hb0; have z0 := A1.out.cell0
      go_wp2_with fail
      refine (szStringS _ _ _ (left - (n0 : Int)) _ (A1.out.reads pG5.out) (HG.out) (by omega) (by omega)).mono ?_
      rintro e w2 ⟨rfl, hb0⟩
      rw [show sizeStringS x.names = n1 from (by have := HN.out; omega), S1.out]
      have A2 := Aside0.mk (A1.out.step (hb0)); clear A1 hb0 z0; have z0 := A2.out.cell0
      go_wp2
      go_ret
      exact ⟨rfl, A2.out.below⟩
def sizeNodeS (l : List Node) : Nat := l.length + (l.map sizeNode).sum
theorem sizeNodeS_take (l : List Node) (j : Nat) (h : j < l.length) : ((l.take (j + 1)).map sizeNode).sum = ((l.take j).map sizeNode).sum + sizeNode (el zNode l j) := by
  rw [List.take_succ_eq_append_getElem h, List.map_append, List.sum_append, el_lt zNode h]
  simp
theorem sizeNodeS_le (l : List Node) (j : Nat) : ((l.take j).map sizeNode).sum ≤ (l.map sizeNode).sum := by
  have h : ((l.take j ++ l.drop j).map sizeNode).sum = (l.map sizeNode).sum := by rw [List.take_append_drop]
  rw [List.map_append, List.sum_append] at h
  omega
set_option maxHeartbeats 4000000 in
set_option maxRecDepth 100000 in
theorem szNodeS (A : Option Addr) (c : Nat) (l : List Node) (left : Int) (w : World) (hr : kNodeL.C w A l.length l) (hgood : ∀ y ∈ l, GoodNode y) (h0 : 0 ≤ left) (h1 : left ≤ 1048576) :
    Calls Try.prog 52 #[.slice A l.length c, .int .i64 left] w fun e w' => e = .returned (.int .i64 (sub left (sizeNodeS l))) ∧ Below w.heap.size w w' := by
  have hL : l.length ≤ 9223372036854775807 := hr.2.1
  have HR := Aside0.mk hr; have HG := Aside0.mk hgood; clear hr hgood
  by_cases h : left < (l.length : Int)
  · have hfin : sub left (sizeNodeS l) = -1 := by unfold sub sizeNodeS; rw [if_pos (by omega)]
    rw [hfin]; clear hfin
    have d1 : decide (left - (l.length : Int) < 0) = true := by simp; omega
    have d2 : decide (left < (l.length : Int)) = true := by simp; omega
    go_enter Try.func52, Try.ntmps52
    go_wp2
    go_ret
    exact ⟨rfl, Below.refl _ _⟩
  · have d1 : decide (left - (l.length : Int) < 0) = false := by simp; omega
    have d2 : decide (left < (l.length : Int)) = false := by simp; omega
    go_enter Try.func52, Try.ntmps52
    go_wp2
    go_loopw [1, 5] (fun u v wr => ∃ (j : Nat) (r : Int), v = .int .i64 j ∧ u = .int .i64 r ∧ j ≤ l.length ∧ 0 ≤ r ∧ r ≤ 1048576 ∧ Aside0 (r = left - (l.length : Int) - (((l.take j).map sizeNode).sum : Nat)) ∧ Aside0 (Below w.heap.size w wr)) (fun _ v _ => l.length - (intOf v).toNat)
    case atStart => exact ⟨0, left - (l.length : Int), rfl, rfl, by omega, by omega, by omega, ⟨by simp⟩, ⟨Below.refl _ _⟩⟩
    case round =>
      obtain ⟨j, r, rfl, rfl, hj, hr0, hr1, HE, HW⟩ := hrel
      by_cases hlt : j < l.length
      · obtain ⟨pa, pA4, pc4, pA5, pc5, rfl, pK, px0, px1, px2, px3, px4, px5, px6, px7⟩ := NodeL_at (Kd.C_below HR.out HW.out) j hlt
        have pK2 := Aside0.mk pK; clear pK
        have HGj := Aside0.mk (HG.out _ (el_mem zNode hlt))
        have i1 : (0 : Int) ≤ (j : Int) := by omega
        have i2 : (j : Int) < (l.length : Int) := by omega
        have HT := Aside0.mk (sizeNodeS_take l j hlt); have HM := Aside0.mk (sizeNodeS_le l (j + 1))
        obtain ⟨m, hm⟩ : ∃ m, m = sizeNode (el zNode l j) := ⟨_, rfl⟩
        have HMM := Aside0.mk hm; clear hm
        by_cases c0 : r < (m : Int)
        · have s0 : sub r m = -1 := by unfold sub; rw [if_pos c0]
          have hfin : sub left (sizeNodeS l) = -1 := by unfold sub sizeNodeS; rw [if_pos (by have := HE.out; have := HT.out; have := HM.out; have := HMM.out; omega)]
          have HF := Aside0.mk hfin; clear hfin
          have S0 := Aside0.mk s0; clear s0
          go_wp2_with fail
          refine (szNode (el zNode l j) _ r _ pK2.out HGj.out hr0 hr1).mono ?_
          rintro e w1 ⟨rfl, hb⟩
          rw [← HMM.out, S0.out]
          go_wp2
          go_ret
          exact ⟨by rw [HF.out]; rfl, below_step HW.out hb⟩
        · have s0 : sub r m = r - m := by unfold sub; rw [if_neg c0]
          have d3 : decide (r - (m : Int) < 0) = false := by simp; omega
          have g3 : 0 ≤ r - (m : Int) := by omega
          have S0 := Aside0.mk s0; clear s0
          go_wp2_with fail
          refine (szNode (el zNode l j) _ r _ pK2.out HGj.out hr0 hr1).mono ?_
          rintro e w1 ⟨rfl, hb⟩
          rw [← HMM.out, S0.out]
          go_wp2
          go_roundw
          case rel => exact ⟨j + 1, r - (m : Int), by go_num, rfl, by omega, by omega, by omega, ⟨by have := HE.out; have := HT.out; have := HMM.out; omega⟩, ⟨below_step HW.out hb⟩⟩
          case measure => simp [intOf]; omega
      · have hjl : j = l.length := by omega
        have hfin : sub left (sizeNodeS l) = r := by have h := HE.out; rw [hjl, List.take_length] at h; unfold sub sizeNodeS; rw [if_neg (by omega)]; omega
        have HF := Aside0.mk hfin; clear hfin hjl
        go_wp2
        go_ret
        exact ⟨by rw [HF.out]; rfl, HW.out⟩
end Go.Proofs.Ytlhfhfamifmijaa
end
section
namespace Go.Proofs.Ytlhfhfamifmijaa.Law
open Go.RowKit Go.Proofs.YtlhfhfamifmijaaW.PrintWords Go.Proofs.YtlhfhfamifmijaaW.PrintMore
set_option linter.unusedVariables false
/-- A holding: the blocks lo .. hi, and what the world says of them. -/
structure Hold where
  lo : Nat
  hi : Nat
  P : World → Prop
  mv : ∀ {W W2 : World}, (∀ k, lo ≤ k → k < hi → k < W.heap.size → W2.heap[k]? = W.heap[k]?) → P W → P W2
def Hold.box (g : Nat) (cs : Array Value) (t : TypeId) : Hold := ⟨g, g + 1, fun W => W.heap[g]? = some (.cells cs t (0, 0)), fun hm h => (hm g (Nat.le_refl _) (Nat.lt_succ_self _) (blk_lt h)).trans h⟩
def Hold.val {α : Type} (d : Kd α) (lo hi : Nat) (x : α) (cs : List Value) : Hold := ⟨lo, hi, fun W => d.M W lo (fun k => lo ≤ k ∧ k < hi) x cs, fun hm h => Kd.M_step h (fun k hk hlt => hm k hk.1 hk.2 hlt)⟩
structure Mem (w W : World) (H : List Hold) : Prop where
  below : Below w.heap.size w W
  says : ∀ h ∈ H, h.P W
  fits : ∀ h ∈ H, w.heap.size ≤ h.lo ∧ h.hi ≤ W.heap.size
  apart : H.Pairwise (fun a b => b.hi ≤ a.lo ∨ a.hi ≤ b.lo)
theorem Mem.start (w : World) : Mem w w [] := ⟨Below.refl _ _, fun _ h => absurd h List.not_mem_nil, fun _ h => absurd h List.not_mem_nil, List.Pairwise.nil⟩
theorem Mem.step {w W W2 : World} {H : List Hold} (h : Mem w W H) (hb : Below W.heap.size W W2) : Mem w W2 H :=
  ⟨below_step h.below hb, fun x hx => x.mv (fun k _ _ hlt => hb.block k hlt) (h.says x hx), fun x hx => ⟨(h.fits x hx).1, Nat.le_trans (h.fits x hx).2 hb.size⟩, h.apart⟩
theorem Mem.drew {w W : World} {H : List Hold} (h : Mem w W H) : Mem w W.drew H := h.step (below_drew1 (Below.refl _ _))
theorem Mem.draw {w W : World} {H : List Hold} (h : Mem w W H) (n : Nat) : Mem w (W.drewN n) H := h.step (pw_below_drewN (Below.refl _ _) n)
theorem Mem.alloc {w W : World} {H : List Hold} (h : Mem w W H) (cs : Array Value) (t : TypeId) : Mem w (W.alloc (.cells cs t)) (Hold.box W.heap.size cs t :: H) := by
  have h2 := h.step (below_alloc (Below.refl W.heap.size W) (.cells cs t))
  refine ⟨h2.below, fun x hx => ?_, fun x hx => ?_, List.Pairwise.cons (fun b hb => .inl (h.fits b hb).2) h.apart⟩
  · rcases List.mem_cons.1 hx with rfl | hx
    · exact blk_new W _
    · exact h2.says x hx
  · rcases List.mem_cons.1 hx with rfl | hx
    · exact ⟨h.below.size, by simp [Hold.box]⟩
    · exact h2.fits x hx
theorem Mem.push {α : Type} {d : Kd α} {w W W2 : World} {H : List Hold} {x : α} {cs : List Value} (h : Mem w W H) (hb : Below W.heap.size W W2) (hm : d.M W2 W.heap.size (fun _ => True) x cs) : Mem w W2 (Hold.val d W.heap.size W2.heap.size x cs :: H) := by
  have h2 := h.step hb
  refine ⟨h2.below, fun y hy => ?_, fun y hy => ?_, List.Pairwise.cons (fun b hb => .inl (h.fits b hb).2) h.apart⟩
  · rcases List.mem_cons.1 hy with rfl | hy
    · exact d.M_mono (fun k hk => ⟨hk.2.1, hk.2.2.1⟩) (d.M_bound hm)
    · exact h2.says y hy
  · rcases List.mem_cons.1 hy with rfl | hy
    · exact ⟨h.below.size, Nat.le_refl _⟩
    · exact h2.fits y hy
theorem Mem.box {w W : World} {H : List Hold} {g : Nat} {cs : Array Value} {t : TypeId} (h : Mem w W H) (hm : Hold.box g cs t ∈ H) : ∀ o, W.cell? ⟨g, o, none⟩ = cs[o]? := fun o => blk_cell (h.says _ hm) o
theorem Mem.val {α : Type} {d : Kd α} {w W : World} {H : List Hold} {lo hi : Nat} {x : α} {cs : List Value} (h : Mem w W H) (hm : Hold.val d lo hi x cs ∈ H) : d.M W lo (fun k => lo ≤ k ∧ k < hi) x cs := h.says _ hm
theorem Mem.drop {w W : World} {h0 : Hold} {H : List Hold} (h : Mem w W (h0 :: H)) : Mem w W H := ⟨h.below, fun x hx => h.says x (.tail _ hx), fun x hx => h.fits x (.tail _ hx), (List.pairwise_cons.1 h.apart).2⟩
theorem Mem.allocAt {w W : World} {H : List Hold} (h : Mem w W H) {g : Nat} (hg : g = W.heap.size) (cs : Array Value) (t : TypeId) : Mem w (W.alloc (.cells cs t)) (Hold.box g cs t :: H) := hg ▸ h.alloc cs t
theorem Mem.pushR {α : Type} {d : Kd α} {e : Nat} {w W W2 : World} {H : List Hold} {l : List α} {v : Value} (h : Mem w W H) (hb : Below W.heap.size W W2) (hr : d.R e W2 W.heap.size (fun _ => True) v l) : Mem w W2 (Hold.val (Kd.slice e d) W.heap.size W2.heap.size l [v] :: H) := h.push hb ⟨v, rfl, hr⟩
theorem Mem.row {α : Type} {d : Kd α} {e : Nat} {w W : World} {H : List Hold} {lo hi : Nat} {l : List α} {v : Value} (h : Mem w W H) (hm : Hold.val (Kd.slice e d) lo hi l [v] ∈ H) : d.R e W lo (fun k => lo ≤ k ∧ k < hi) v l := by
  obtain ⟨v2, he, hr⟩ := h.val hm
  cases he
  exact hr
theorem Mem.rowT {α : Type} {d : Kd α} {e : Nat} {w W : World} {H : List Hold} {lo hi : Nat} {l : List α} {v : Value} (h : Mem w W H) (hm : Hold.val (Kd.slice e d) lo hi l [v] ∈ H) : d.R e W w.heap.size (fun _ => True) v l := Kd.R_mono (Kd.R_lower (h.row hm) (h.fits _ hm).1) (fun _ _ => trivial)
theorem Mem.free {w W : World} {H : List Hold} {g : Nat} {cs : Array Value} {t : TypeId} (h : Mem w W H) (hm : Hold.box g cs t ∈ H) : ∀ o, W.frozen? ⟨g, o, none⟩ = false := fun o => blk_frozen (h.says _ hm) o
theorem Mem.blk {w W : World} {H : List Hold} {g : Nat} {cs : Array Value} {t : TypeId} (h : Mem w W H) (hm : Hold.box g cs t ∈ H) : W.heap[g]? = some (.cells cs t (0, 0)) := h.says _ hm
/-- One holding's blocks alone are written. -/
theorem Mem.swap {w W W2 : World} {A B : List Hold} {a b : Hold} (h : Mem w W (A ++ a :: B)) (hl : b.lo = a.lo) (hh : b.hi = a.hi) (hb : Below w.heap.size w W2) (hk : Kept W W2 (fun k => a.lo ≤ k ∧ k < a.hi)) (hv : b.P W2) : Mem w W2 (A ++ b :: B) := by
  have ha := h.apart
  rw [List.pairwise_append] at ha
  obtain ⟨hA, hB, hAB⟩ := ha
  rw [List.pairwise_cons] at hB
  have key : ∀ z : Hold, (z ∈ A ∨ z ∈ B) → z.P W → z.P W2 := by
    intro z hz hp
    refine z.mv (fun k h1 h2 h3 => hk.2 k h3 ?_) hp
    rintro ⟨h4, h5⟩
    rcases hz with hz | hz
    · have := hAB z hz a List.mem_cons_self
      omega
    · have := hB.1 z hz
      omega
  refine ⟨hb, fun z hz => ?_, fun z hz => ?_, ?_⟩
  · rcases List.mem_append.1 hz with hz | hz
    · exact key z (.inl hz) (h.says z (List.mem_append_left _ hz))
    · rcases List.mem_cons.1 hz with rfl | hz
      · exact hv
      · exact key z (.inr hz) (h.says z (List.mem_append_right _ (List.mem_cons_of_mem _ hz)))
  · have hs := hk.1
    rcases List.mem_append.1 hz with hz | hz
    · have := h.fits z (List.mem_append_left _ hz)
      exact ⟨this.1, Nat.le_trans this.2 hs⟩
    · rcases List.mem_cons.1 hz with rfl | hz
      · have := h.fits a (List.mem_append_right _ List.mem_cons_self)
        rw [hl, hh]
        exact ⟨this.1, Nat.le_trans this.2 hs⟩
      · have := h.fits z (List.mem_append_right _ (List.mem_cons_of_mem _ hz))
        exact ⟨this.1, Nat.le_trans this.2 hs⟩
  · rw [List.pairwise_append]
    refine ⟨hA, List.pairwise_cons.2 ⟨fun z hz => by rw [hl, hh]; exact hB.1 z hz, hB.2⟩, fun c hc b' hb' => ?_⟩
    rcases List.mem_cons.1 hb' with rfl | hb'
    · rw [hh, hl]
      exact hAB c hc a List.mem_cons_self
    · exact hAB c hc b' (List.mem_cons_of_mem _ hb')
/-- A box's cell is written. -/
theorem Mem.set {w W : World} {A B : List Hold} {g : Nat} {cs : Array Value} {t : TypeId} (h : Mem w W (A ++ Hold.box g cs t :: B)) (j : Nat) (u : Value) {cs' : Array Value} (e : cs.setIfInBounds j u = cs') : Mem w (W.setCell ⟨g, j, none⟩ u) (A ++ Hold.box g cs' t :: B) := by
  have hm : Hold.box g cs t ∈ A ++ Hold.box g cs t :: B := List.mem_append_right _ List.mem_cons_self
  refine Mem.swap (a := Hold.box g cs t) (b := Hold.box g cs' t) h rfl rfl (below_set h.below (h.fits _ hm).1) ?_ (blk_put (h.says _ hm) j u e)
  exact Kept.setCell (Kept.refl _ _) (.inl ⟨Nat.le_refl _, Nat.lt_succ_self _⟩) u
/-- The i-th holding, a value, is written over; all else stays. -/
theorem Mem.mark {α : Type} {d : Kd α} {w W W2 : World} {A B : List Hold} {lo hi : Nat} {x y : α} {cs : List Value} (h : Mem w W (A ++ Hold.val d lo hi x cs :: B)) (hb : Below w.heap.size w W2) (hk : Kept W W2 (fun k => lo ≤ k ∧ k < hi)) (hv : d.M W2 lo (fun k => lo ≤ k ∧ k < hi) y cs) : Mem w W2 (A ++ Hold.val d lo hi y cs :: B) :=
  Mem.swap (a := Hold.val d lo hi x cs) (b := Hold.val d lo hi y cs) h rfl rfl hb hk hv
end Go.Proofs.Ytlhfhfamifmijaa.Law
end
section
namespace Go.Proofs.Ytlhfhfamifmijaa
open Go.RowKit Go.Proofs.YtlhfhfamifmijaaW.PrintWords Go.Proofs.YtlhfhfamifmijaaW.PrintMore Go.Proofs.Ytlhfhfamifmijaa.Law Go.Proofs.Ytlhfhfamifmijaa.Num
set_option linter.unusedVariables false
set_option linter.unusedSimpArgs false
set_option autoImplicit false
theorem el_set_ne {α : Type} {z x : α} {l : List α} {i j : Nat} (h : i ≠ j) : el z (l.set j x) i = el z l i := by simp [el, List.getElem?_set, Ne.symm h]
theorem el_set_eq {α : Type} {z x : α} {l : List α} {j : Nat} (h : j < l.length) : el z (l.set j x) j = x := by simp [el, h]
set_option maxHeartbeats 4000000 in
set_option maxRecDepth 100000 in
theorem toIntS (A : Option Addr) (c : Nat) (l : List Int) (w : World) (hr : (Kd.int .i64).C w A l.length l) (hlen : l.length ≤ 1048576) :
    Calls Try.prog 71 #[.slice A l.length c] w fun e w' => ∃ v, e = .returned v ∧ (Kd.int .i64).R 3 w' w.heap.size (fun _ => True) v l ∧ Below w.heap.size w w' := by
  have HR := Aside0.mk hr; clear hr
  have HB := Aside0.mk (Below.refl w.heap.size w)
  go_enter Try.func71, Try.ntmps71
  go_wp2_with (refine Kd.R_make (Kd.int .i64) _ 3 rfl (N := _) rfl _ _ _ rfl (l.length : Int) rfl rfl Try.underlying26 (.int .i64 0) 8 (by kernel_rfl) rfl (by decide) (by omega) 0 (ok := fun _ => True) (okp := fun _ => True) rfl (fun _ hk => hk) trivial (by omega) (by omega) (Below.refl _ _) (Nat.le_refl _) ?_; intro v1 w1 ho hb hg_ hnew_; clear hg_ hnew_ HB; have HO := Aside0.mk ho; have HB := Aside0.mk hb; clear ho hb)
  go_loopw [4] (fun v wr => ∃ (j : Nat) (xs : List Int), v = .int .i64 j ∧ j ≤ l.length ∧ xs.length = l.length ∧ Aside0 (∀ i : Nat, i < j → el 0 xs i = el 0 l i) ∧ Aside0 ((Kd.int .i64).R 3 wr w.heap.size (fun _ => True) v1 xs) ∧ Aside0 (Below w.heap.size w wr)) (fun v _ => l.length - (intOf v).toNat)
  case atStart => exact ⟨0, _, rfl, by omega, by simp, ⟨fun i hi => by omega⟩, HO, HB⟩
  case round =>
    clear HO HB
    obtain ⟨j, xs, rfl, hj, hn, HE, HO, HB⟩ := hrel
    by_cases hlt : j < l.length
    · obtain ⟨a, rfl, ha⟩ := int_at HR.out j hlt
      have hxa := (HB.out.cell (World.block_lt_of_cell? w _ ha)).trans ha
      obtain ⟨go, co, rfl, gb, gl, cl, HG⟩ := Kd.R_form HO.out (by omega)
      obtain ⟨hx0, hf0⟩ := Kd.R_celln 0 HO.out (j : Int) (by omega) (by omega)
      rw [Int.toNat_natCast] at hx0 hf0
      have HP := Aside0.mk (Kd.R_putg HO.out (j : Int) (el 0 l j)).1
      have GB := Aside0.mk gb
      have hb1 : (j : Int) < (xs.length : Int) := by omega
      have hb2 : (j : Int) < (l.length : Int) := by omega
      clear ha gb gl HG
      go_wp2
      go_roundw
      case measure => simp [intOf]; omega
      case rel => exact ⟨j + 1, _, by go_num, by omega, by simpa using hn, ⟨fun i hi => by rcases Nat.lt_succ_iff_lt_or_eq.1 hi with h | h; (rw [el_set_ne (by omega)]; exact HE.out i h); subst h; exact el_set_eq (by omega)⟩, HP, ⟨below_set HB.out GB.out⟩⟩
    · have hb2 : ¬ (j : Int) < (l.length : Int) := by omega
      have he : xs = l := el_ext 0 hn (fun i hi => HE.out i (by omega))
      subst he
      go_wp2
      go_ret
      exact ⟨_, rfl, HO.out, HB.out⟩
end Go.Proofs.Ytlhfhfamifmijaa
end
section
namespace Go.Proofs.Ytlhfhfamifmijaa
open Go.RowKit Go.Proofs.YtlhfhfamifmijaaW.PrintWords Go.Proofs.YtlhfhfamifmijaaW.PrintMore Go.Proofs.Ytlhfhfamifmijaa.Law Go.Proofs.Ytlhfhfamifmijaa.Num
set_option linter.unusedVariables false
set_option linter.unusedSimpArgs false
set_option autoImplicit false
set_option maxHeartbeats 4000000 in
set_option maxRecDepth 100000 in
theorem toStringS (A : Option Addr) (c : Nat) (l : List ByteArray) (w : World) (hr : Kd.string.C w A l.length l) (hlen : l.length ≤ 1048576) :
    Calls Try.prog 162 #[.slice A l.length c] w fun e w' => ∃ v, e = .returned v ∧ Kd.string.R 9 w' w.heap.size (fun _ => True) v l ∧ Below w.heap.size w w' := by
  have HR := Aside0.mk hr; clear hr
  have HB := Aside0.mk (Below.refl w.heap.size w)
  go_enter Try.func162, Try.ntmps162
  go_wp2_with (refine Kd.R_make Kd.string _ 9 rfl (N := _) rfl _ _ _ rfl (l.length : Int) rfl rfl Try.underlying139 (.string (⟨#[]⟩ : ByteArray)) 16 (by kernel_rfl) rfl (by decide) (by omega) (⟨#[]⟩ : ByteArray) (ok := fun _ => True) (okp := fun _ => True) rfl (fun _ hk => hk) trivial (by omega) (by omega) (Below.refl _ _) (Nat.le_refl _) ?_; intro v1 w1 ho hb hg_ hnew_; clear hg_ hnew_ HB; have HO := Aside0.mk ho; have HB := Aside0.mk hb; clear ho hb)
  go_loopw [4] (fun v wr => ∃ (j : Nat) (xs : List ByteArray), v = .int .i64 j ∧ j ≤ l.length ∧ xs.length = l.length ∧ Aside0 (∀ i : Nat, i < j → el (⟨#[]⟩ : ByteArray) xs i = el (⟨#[]⟩ : ByteArray) l i) ∧ Aside0 (Kd.string.R 9 wr w.heap.size (fun _ => True) v1 xs) ∧ Aside0 (Below w.heap.size w wr)) (fun v _ => l.length - (intOf v).toNat)
  case atStart => exact ⟨0, _, rfl, by omega, by simp, ⟨fun i hi => by omega⟩, HO, HB⟩
  case round =>
    clear HO HB
    obtain ⟨j, xs, rfl, hj, hn, HE, HO, HB⟩ := hrel
    by_cases hlt : j < l.length
    · obtain ⟨a, rfl, ha⟩ := string_at HR.out j hlt
      have hxa := (HB.out.cell (World.block_lt_of_cell? w _ ha)).trans ha
      obtain ⟨go, co, rfl, gb, gl, cl, HG⟩ := Kd.R_form HO.out (by omega)
      obtain ⟨hx0, hf0⟩ := Kd.R_celln (⟨#[]⟩ : ByteArray) HO.out (j : Int) (by omega) (by omega)
      rw [Int.toNat_natCast] at hx0 hf0
      have HP := Aside0.mk (Kd.R_putg HO.out (j : Int) (el (⟨#[]⟩ : ByteArray) l j)).1
      have GB := Aside0.mk gb
      have hb1 : (j : Int) < (xs.length : Int) := by omega
      have hb2 : (j : Int) < (l.length : Int) := by omega
      clear ha gb gl HG
      go_wp2
      go_roundw
      case measure => simp [intOf]; omega
      case rel => exact ⟨j + 1, _, by go_num, by omega, by simpa using hn, ⟨fun i hi => by rcases Nat.lt_succ_iff_lt_or_eq.1 hi with h | h; (rw [el_set_ne (by omega)]; exact HE.out i h); subst h; exact el_set_eq (by omega)⟩, HP, ⟨below_set HB.out GB.out⟩⟩
    · have hb2 : ¬ (j : Int) < (l.length : Int) := by omega
      have he : xs = l := el_ext (⟨#[]⟩ : ByteArray) hn (fun i hi => HE.out i (by omega))
      subst he
      go_wp2
      go_ret
      exact ⟨_, rfl, HO.out, HB.out⟩
def LenNode (x : Node) : Prop := x.list.length ≤ 1048576 ∧ x.names.length ≤ 1048576
set_option maxHeartbeats 4000000 in
set_option maxRecDepth 100000 in
theorem toNode (x : Node) (cs : List Value) (w : World) (hk : kNodeL.K w x cs) (hl : LenNode x) :
    Calls Try.prog 106 #[.agg ⟨cs⟩] w fun e w' => ∃ ds, e = .returned (.agg ⟨ds⟩) ∧ kNodeI.M w' w.heap.size (fun _ => True) x ds ∧ Below w.heap.size w w' := by
  obtain ⟨pA4, pc4, pA5, pc5, rfl, pl4, pg4, pl5, pg5⟩ := kNodeL_open hk
  have pG4 := Aside0.mk pg4; clear pg4 pl4
  have pG5 := Aside0.mk pg5; clear pg5 pl5
  clear hk; unfold LenNode at hl
  have HL := Aside0.mk hl; clear hl
  have hu := Try.underlying141; have hu2 := Try.underlying142
  have M0 := Aside0.mk ((((Mem.start w).allocAt rfl #[.int .i64 x.kind, .int .i64 x.a, .int .i64 x.b, .int .i64 x.c, .slice pA4 x.list.length pc4, .slice pA5 x.names.length pc5, .int .u64 x.num, .int .i64 x.at_] 141).allocAt (g := (w.heap.size + 1)) (by simp) #[.int .i64 0, .int .i64 0, .int .i64 0, .int .i64 0, .slice none 0 0, .slice none 0 0, .int .u64 0, .int .i64 0] 142).allocAt (g := (w.heap.size + 1 + 1)) (by simp) #[.int .i64 x.kind, .int .i64 x.a, .int .i64 x.b, .int .i64 x.c, .slice none 0 0, .slice none 0 0, .int .u64 0, .int .i64 0] 142)
  go_enter Try.func106, Try.ntmps106
  go_wp2_with fail
  refine (toIntS _ _ x.list _ (Kd.C_below pG4.out M0.out.below) HL.out.1).mono ?_
  rintro e w4 ⟨v, rfl, ho, hb⟩; obtain ⟨vA4, vc4, rfl⟩ := Kd.R_slice ho
  have N4 := Aside0.mk (M0.out.pushR hb ho); clear ho hb M0
  have M5 := Aside0.mk (Mem.set (A := [_]) N4.out 4 (.slice vA4 x.list.length vc4) (cs' := #[.int .i64 x.kind, .int .i64 x.a, .int .i64 x.b, .int .i64 x.c, .slice vA4 x.list.length vc4, .slice none 0 0, .int .u64 0, .int .i64 0]) rfl)
  have za := N4.out.box (.tail _ (.tail _ (.tail _ (.head _)))); have zo := N4.out.box (.tail _ (.head _)); have fo := N4.out.free (.tail _ (.head _)); have zr := N4.out.box (.tail _ (.tail _ (.head _))); have fr := N4.out.free (.tail _ (.tail _ (.head _)))
  go_wp2_with fail
  clear za zo fo zr fr N4
  refine (toStringS _ _ x.names _ (Kd.C_below pG5.out M5.out.below) HL.out.2).mono ?_
  rintro e w5 ⟨v, rfl, ho, hb⟩; obtain ⟨vA5, vc5, rfl⟩ := Kd.R_slice ho
  have N5 := Aside0.mk (M5.out.pushR hb ho); clear ho hb M5
  have M6 := Aside0.mk (Mem.set (A := [_, _]) N5.out 5 (.slice vA5 x.names.length vc5) (cs' := #[.int .i64 x.kind, .int .i64 x.a, .int .i64 x.b, .int .i64 x.c, .slice vA4 x.list.length vc4, .slice vA5 x.names.length vc5, .int .u64 0, .int .i64 0]) rfl)
  have za := N5.out.box (.tail _ (.tail _ (.tail _ (.tail _ (.head _))))); have zo := N5.out.box (.tail _ (.tail _ (.head _))); have fo := N5.out.free (.tail _ (.tail _ (.head _))); have zr := N5.out.box (.tail _ (.tail _ (.tail _ (.head _)))); have fr := N5.out.free (.tail _ (.tail _ (.tail _ (.head _))))
  have M7 := Aside0.mk (Mem.set (A := [_, _]) M6.out 6 (.int .u64 x.num) (cs' := #[.int .i64 x.kind, .int .i64 x.a, .int .i64 x.b, .int .i64 x.c, .slice vA4 x.list.length vc4, .slice vA5 x.names.length vc5, .int .u64 x.num, .int .i64 0]) rfl)
  have M8 := Aside0.mk (Mem.set (A := [_, _]) M7.out 7 (.int .i64 x.at_) (cs' := #[.int .i64 x.kind, .int .i64 x.a, .int .i64 x.b, .int .i64 x.c, .slice vA4 x.list.length vc4, .slice vA5 x.names.length vc5, .int .u64 x.num, .int .i64 x.at_]) rfl)
  go_wp2
  have Z0 := Aside0.mk (Mem.set (A := [_, _, _]) M8.out 0 (.int .i64 x.kind) (cs' := #[.int .i64 x.kind, .int .i64 0, .int .i64 0, .int .i64 0, .slice none 0 0, .slice none 0 0, .int .u64 0, .int .i64 0]) rfl); clear M8
  have Z1 := Aside0.mk (Mem.set (A := [_, _, _]) Z0.out 1 (.int .i64 x.a) (cs' := #[.int .i64 x.kind, .int .i64 x.a, .int .i64 0, .int .i64 0, .slice none 0 0, .slice none 0 0, .int .u64 0, .int .i64 0]) rfl); clear Z0
  have Z2 := Aside0.mk (Mem.set (A := [_, _, _]) Z1.out 2 (.int .i64 x.b) (cs' := #[.int .i64 x.kind, .int .i64 x.a, .int .i64 x.b, .int .i64 0, .slice none 0 0, .slice none 0 0, .int .u64 0, .int .i64 0]) rfl); clear Z1
  have Z3 := Aside0.mk (Mem.set (A := [_, _, _]) Z2.out 3 (.int .i64 x.c) (cs' := #[.int .i64 x.kind, .int .i64 x.a, .int .i64 x.b, .int .i64 x.c, .slice none 0 0, .slice none 0 0, .int .u64 0, .int .i64 0]) rfl); clear Z2
  have Z4 := Aside0.mk (Mem.set (A := [_, _, _]) Z3.out 4 (.slice vA4 x.list.length vc4) (cs' := #[.int .i64 x.kind, .int .i64 x.a, .int .i64 x.b, .int .i64 x.c, .slice vA4 x.list.length vc4, .slice none 0 0, .int .u64 0, .int .i64 0]) rfl); clear Z3
  have Z5 := Aside0.mk (Mem.set (A := [_, _, _]) Z4.out 5 (.slice vA5 x.names.length vc5) (cs' := #[.int .i64 x.kind, .int .i64 x.a, .int .i64 x.b, .int .i64 x.c, .slice vA4 x.list.length vc4, .slice vA5 x.names.length vc5, .int .u64 0, .int .i64 0]) rfl); clear Z4
  have Z6 := Aside0.mk (Mem.set (A := [_, _, _]) Z5.out 6 (.int .u64 x.num) (cs' := #[.int .i64 x.kind, .int .i64 x.a, .int .i64 x.b, .int .i64 x.c, .slice vA4 x.list.length vc4, .slice vA5 x.names.length vc5, .int .u64 x.num, .int .i64 0]) rfl); clear Z5
  have Z7 := Aside0.mk (Mem.set (A := [_, _, _]) Z6.out 7 (.int .i64 x.at_) (cs' := #[.int .i64 x.kind, .int .i64 x.a, .int .i64 x.b, .int .i64 x.c, .slice vA4 x.list.length vc4, .slice vA5 x.names.length vc5, .int .u64 x.num, .int .i64 x.at_]) rfl); clear Z6
  refine bodyPost_ret (results_cell_row rfl _ _ (w.heap.size + 1) 142 #[.int .i64 x.kind, .int .i64 x.a, .int .i64 x.b, .int .i64 x.c, .slice vA4 x.list.length vc4, .slice vA5 x.names.length vc5, .int .u64 x.num, .int .i64 x.at_] (0, 0) _ rfl (Z7.out.blk (.tail _ (.tail _ (.tail _ (.head _))))) hu2 rfl (by kernel_rfl)) rfl ?_
  exact ⟨_, rfl, kNodeI_mkM _ _ _ x (Z7.out.rowT (.tail _ (.head _))) (Z7.out.rowT (.head _)), Z7.out.below⟩
set_option maxHeartbeats 4000000 in
set_option maxRecDepth 100000 in
theorem toNodeS (A : Option Addr) (c : Nat) (l : List Node) (w : World) (hr : kNodeL.C w A l.length l) (hlen : l.length ≤ 1048576) (hl : ∀ y ∈ l, LenNode y) :
    Calls Try.prog 54 #[.slice A l.length c] w fun e w' => ∃ v, e = .returned v ∧ kNodeI.R 142 w' w.heap.size (fun _ => True) v l ∧ Below w.heap.size w w' := by
  have HR := Aside0.mk hr; clear hr
  have HL := Aside0.mk hl; clear hl
  have HB := Aside0.mk (Below.refl w.heap.size w)
  have hu := Try.underlying141; have hu2 := Try.underlying142
  go_enter Try.func54, Try.ntmps54
  go_wp2_with (refine Kd.R_make kNodeI _ 142 rfl (N := _) rfl _ _ _ rfl (l.length : Int) rfl rfl Try.underlying68 (.agg #[.int .i64 0, .int .i64 0, .int .i64 0, .int .i64 0, .slice none 0 0, .slice none 0 0, .int .u64 0, .int .i64 0]) 96 (by kernel_rfl) rfl (by decide) (by omega) zNode (ok := fun _ => True) (okp := fun _ => True) (kNodeI_mkM _ _ _ zNode (Kd.R_nil _ _ _ _ _) (Kd.R_nil _ _ _ _ _)) (fun _ hk => hk) trivial (by omega) (by omega) (Below.refl _ _) (Nat.le_refl _) ?_; intro v1 w1 ho hb hg_ hnew_; clear hg_ hnew_ HB; have HO := Aside0.mk ho; have HB := Aside0.mk hb; clear ho hb)
  go_loopw [4] (fun v wr => ∃ (j : Nat) (xs : List Node), v = .int .i64 j ∧ j ≤ l.length ∧ xs.length = l.length ∧ Aside0 (∀ i : Nat, i < j → el zNode xs i = el zNode l i) ∧ Aside0 (kNodeI.R 142 wr w.heap.size (fun _ => True) v1 xs) ∧ Aside0 (Below w.heap.size w wr)) (fun v _ => l.length - (intOf v).toNat)
  case atStart => exact ⟨0, _, rfl, by omega, by simp, ⟨fun i hi => by omega⟩, HO, HB⟩
  case round =>
    clear HO HB
    obtain ⟨j, xs, rfl, hj, hn, HE, HO, HB⟩ := hrel
    by_cases hlt : j < l.length
    · obtain ⟨a, qA4, qc4, qA5, qc5, rfl, hk, x0, x1, x2, x3, x4, x5, x6, x7⟩ := NodeL_at HR.out j hlt
      replace x0 := (HB.out.cell (World.block_lt_of_cell? w _ x0)).trans x0
      replace x1 := (HB.out.cell (World.block_lt_of_cell? w _ x1)).trans x1
      replace x2 := (HB.out.cell (World.block_lt_of_cell? w _ x2)).trans x2
      replace x3 := (HB.out.cell (World.block_lt_of_cell? w _ x3)).trans x3
      replace x4 := (HB.out.cell (World.block_lt_of_cell? w _ x4)).trans x4
      replace x5 := (HB.out.cell (World.block_lt_of_cell? w _ x5)).trans x5
      replace x6 := (HB.out.cell (World.block_lt_of_cell? w _ x6)).trans x6
      replace x7 := (HB.out.cell (World.block_lt_of_cell? w _ x7)).trans x7
      have HK := Aside0.mk hk; clear hk
      have hb2 : (j : Int) < (l.length : Int) := by omega
      go_wp2_with fail
      refine (toNode _ _ _ (kNodeL.K_below HB.out HK.out) (HL.out _ (el_mem zNode hlt))).mono ?_
      rintro e w2 ⟨ds, rfl, hm, hb⟩
      have HO2 := Aside0.mk (Kd.R_below HO.out hb); have HB2 := Aside0.mk (below_step HB.out hb)
      obtain ⟨go, co, hv, gb, gl, cl0, HG0⟩ := Kd.R_form HO.out (by omega)
      rw [hn] at hv; subst hv; clear HG0
      obtain ⟨ce, hcl, hM, hcc, hfr⟩ := Kd.R_elem HO2.out zNode (j : Int) (by omega) (by omega)
      obtain ⟨u4, u5, rfl, _, _⟩ := kNodeI_openM hM
      obtain ⟨t4, t5, rfl, r4, r5⟩ := kNodeI_openM hm
      obtain ⟨tA4, tc4, rfl⟩ := Kd.R_slice r4
      obtain ⟨tA5, tc5, rfl⟩ := Kd.R_slice r5
      clear r4 r5
      rw [Int.toNat_natCast] at hcc hfr
      have y0 := hcc 0 _ rfl; replace y0 : w2.cell? ⟨go, j * 8, none⟩ = _ := y0; have f0 := hfr 0; replace f0 : w2.frozen? ⟨go, j * 8, none⟩ = false := f0
      have y1 := hcc 1 _ rfl; replace y1 : w2.cell? ⟨go, j * 8 + 1, none⟩ = _ := y1; have f1 := hfr 1; replace f1 : w2.frozen? ⟨go, j * 8 + 1, none⟩ = false := f1
      have y2 := hcc 2 _ rfl; replace y2 : w2.cell? ⟨go, j * 8 + 2, none⟩ = _ := y2; have f2 := hfr 2; replace f2 : w2.frozen? ⟨go, j * 8 + 2, none⟩ = false := f2
      have y3 := hcc 3 _ rfl; replace y3 : w2.cell? ⟨go, j * 8 + 3, none⟩ = _ := y3; have f3 := hfr 3; replace f3 : w2.frozen? ⟨go, j * 8 + 3, none⟩ = false := f3
      have y4 := hcc 4 _ rfl; replace y4 : w2.cell? ⟨go, j * 8 + 4, none⟩ = _ := y4; have f4 := hfr 4; replace f4 : w2.frozen? ⟨go, j * 8 + 4, none⟩ = false := f4
      have y5 := hcc 5 _ rfl; replace y5 : w2.cell? ⟨go, j * 8 + 5, none⟩ = _ := y5; have f5 := hfr 5; replace f5 : w2.frozen? ⟨go, j * 8 + 5, none⟩ = false := f5
      have y6 := hcc 6 _ rfl; replace y6 : w2.cell? ⟨go, j * 8 + 6, none⟩ = _ := y6; have f6 := hfr 6; replace f6 : w2.frozen? ⟨go, j * 8 + 6, none⟩ = false := f6
      have y7 := hcc 7 _ rfl; replace y7 : w2.cell? ⟨go, j * 8 + 7, none⟩ = _ := y7; have f7 := hfr 7; replace f7 : w2.frozen? ⟨go, j * 8 + 7, none⟩ = false := f7
      have kk := kNodeI.M_bound hm
      have HP := Aside0.mk (Kd.R_seg HO2.out (j : Int) (by omega) (by omega) (seg := [.int .i64 (el zNode l j).kind, .int .i64 (el zNode l j).a, .int .i64 (el zNode l j).b, .int .i64 (el zNode l j).c, .slice tA4 (el zNode l j).list.length tc4, .slice tA5 (el zNode l j).names.length tc5, .int .u64 (el zNode l j).num, .int .i64 (el zNode l j).at_]) (j := 0) hcl (by rw [Int.toNat_natCast]; exact hcc) (show 8 ≤ 8 from by decide) (x' := el zNode l j) (kNodeI.M_lower HB.out.size kk) (fun k hk => ⟨trivial, fun h => by have := hk.2.1; omega⟩)).1
      clear kk hm
      have GB := Aside0.mk gb
      clear gb gl hcl hcc hfr hM hb HO HB
      go_wp2
      go_roundw
      case measure => simp [intOf]; omega
      case rel => exact ⟨j + 1, _, by go_num, by omega, by simpa using hn, ⟨fun i hi => by rcases Nat.lt_succ_iff_lt_or_eq.1 hi with h | h; (rw [el_set_ne (by omega)]; exact HE.out i h); subst h; exact el_set_eq (by omega)⟩, HP, ⟨below_set (below_set (below_set (below_set (below_set (below_set (below_set (below_set (HB2.out) GB.out) GB.out) GB.out) GB.out) GB.out) GB.out) GB.out) GB.out⟩⟩
    · have hb2 : ¬ (j : Int) < (l.length : Int) := by omega
      have he : xs = l := el_ext zNode hn (fun i hi => HE.out i (by omega))
      subst he
      go_wp2
      go_ret
      exact ⟨_, rfl, HO.out, HB.out⟩
end Go.Proofs.Ytlhfhfamifmijaa
end
section
namespace Go.Proofs.Ytlhfhfamifmijaa
open Go.RowKit Go.Proofs.YtlhfhfamifmijaaW.PrintWords Go.Proofs.YtlhfhfamifmijaaW.PrintMore Go.Proofs.Ytlhfhfamifmijaa.Law Go.Proofs.Ytlhfhfamifmijaa.Num
set_option linter.unusedVariables false
set_option linter.unusedSimpArgs false
set_option maxHeartbeats 4000000 in
set_option maxRecDepth 100000 in
theorem eqIntS (A B : Option Addr) (c d : Nat) (l m : List Int) (w : World) (hr : (Kd.int .i64).C w A l.length l) (hr2 : (Kd.int .i64).C w B m.length m) :
    Calls Try.prog 45 #[.slice A l.length c, .slice B m.length d] w fun e w' => e = .returned (.bool (decide (l = m))) ∧ Drawn0 w w' := by
  have hL : l.length ≤ 9223372036854775807 := hr.2.1
  by_cases hlen : l.length = m.length
  · have b1 : ((l.length : Int) != (m.length : Int)) = false := by simp [hlen]
    have HR := Aside0.mk hr; have HR2 := Aside0.mk hr2; have HL := Aside0.mk hlen
    clear hr hr2 hlen
    go_enter Try.func45, Try.ntmps45
    go_wp2
    go_loopw [5] (fun v wr => ∃ j : Nat, v = .int .i64 j ∧ j ≤ l.length ∧ Aside0 (∀ i : Nat, i < j → el 0 l i = el 0 m i) ∧ Drawn0 w wr) (fun v _ => l.length - (intOf v).toNat)
    case atStart => exact ⟨0, rfl, by omega, ⟨fun i hi => by omega⟩, Drawn0.refl _⟩
    case round =>
      obtain ⟨j, rfl, hj, HE, HW⟩ := hrel
      obtain ⟨⟨n, rfl⟩⟩ := HW
      by_cases hlt : j < l.length
      · obtain ⟨a, rfl, ha⟩ := int_at HR.out j hlt
        obtain ⟨a2, rfl, ha2⟩ := int_at HR2.out j (by have := HL.out; omega)
        have i1 : (0 : Int) ≤ (j : Int) := by omega
        have i2 : (j : Int) < (l.length : Int) := by omega
        have i3 : (j : Int) < (m.length : Int) := by have := HL.out; omega
        by_cases he : el 0 l j = el 0 m j
        · have b2 : (el 0 l j != el 0 m j) = false := by simpa using he
          have HE2 := Aside0.mk he
          clear he
          go_wp2
          go_quiet (fail)
          go_wp2
          go_roundw
          case rel => exact ⟨j + 1, by go_num, by omega, ⟨fun i hi => by rcases Nat.lt_succ_iff_lt_or_eq.1 hi with h | h; exact HE.out i h; rw [h]; exact HE2.out⟩, (by first | exact ⟨⟨_, rfl⟩⟩ | exact Drawn0.step ⟨⟨_, rfl⟩⟩ _)⟩
          case measure => simp [intOf]; omega
        · have b2 : (el 0 l j != el 0 m j) = true := by simpa using he
          have HE2 := Aside0.mk he
          clear he
          go_wp2
          go_quiet (fail)
          go_wp2
          go_ret
          exact ⟨by rw [decide_eq_false (fun h => HE2.out (by rw [h]))]; rfl, (by first | exact ⟨⟨_, rfl⟩⟩ | exact Drawn0.step ⟨⟨_, rfl⟩⟩ _)⟩
      · go_wp2
        go_ret
        exact ⟨by rw [decide_eq_true (el_ext 0 HL.out (fun i hi => HE.out i (by omega)))]; rfl, ⟨⟨_, rfl⟩⟩⟩
  · have b1 : ((l.length : Int) != (m.length : Int)) = true := by simp; omega
    have HL := Aside0.mk hlen
    clear hr hr2 hlen
    go_enter Try.func45, Try.ntmps45
    go_wp2
    go_ret
    exact ⟨by rw [decide_eq_false (fun h => HL.out (by rw [h]))]; rfl, Drawn0.refl _⟩
set_option maxHeartbeats 4000000 in
set_option maxRecDepth 100000 in
theorem eqStringS (A B : Option Addr) (c d : Nat) (l m : List ByteArray) (w : World) (hr : Kd.string.C w A l.length l) (hr2 : Kd.string.C w B m.length m) :
    Calls Try.prog 172 #[.slice A l.length c, .slice B m.length d] w fun e w' => e = .returned (.bool (decide (l = m))) ∧ Drawn0 w w' := by
  have hL : l.length ≤ 9223372036854775807 := hr.2.1
  by_cases hlen : l.length = m.length
  · have b1 : ((l.length : Int) != (m.length : Int)) = false := by simp [hlen]
    have HR := Aside0.mk hr; have HR2 := Aside0.mk hr2; have HL := Aside0.mk hlen
    clear hr hr2 hlen
    go_enter Try.func172, Try.ntmps172
    go_wp2
    go_loopw [5] (fun v wr => ∃ j : Nat, v = .int .i64 j ∧ j ≤ l.length ∧ Aside0 (∀ i : Nat, i < j → el ByteArray.empty l i = el ByteArray.empty m i) ∧ Drawn0 w wr) (fun v _ => l.length - (intOf v).toNat)
    case atStart => exact ⟨0, rfl, by omega, ⟨fun i hi => by omega⟩, Drawn0.refl _⟩
    case round =>
      obtain ⟨j, rfl, hj, HE, HW⟩ := hrel
      obtain ⟨⟨n, rfl⟩⟩ := HW
      by_cases hlt : j < l.length
      · obtain ⟨a, rfl, ha⟩ := string_at HR.out j hlt
        obtain ⟨a2, rfl, ha2⟩ := string_at HR2.out j (by have := HL.out; omega)
        have i1 : (0 : Int) ≤ (j : Int) := by omega
        have i2 : (j : Int) < (l.length : Int) := by omega
        have i3 : (j : Int) < (m.length : Int) := by have := HL.out; omega
        by_cases he : el ByteArray.empty l j = el ByteArray.empty m j
        · have b2 : ((el ByteArray.empty l j).toList == (el ByteArray.empty m j).toList) = true := by rw [he]; exact beq_self_eq_true _
          have b3 : ((el ByteArray.empty l j).toList != (el ByteArray.empty m j).toList) = false := by rw [he]; exact bne_self_eq_false _
          have HE2 := Aside0.mk he
          clear he
          go_wp2
          go_quiet (fail)
          go_wp2
          go_roundw
          case rel => exact ⟨j + 1, by go_num, by omega, ⟨fun i hi => by rcases Nat.lt_succ_iff_lt_or_eq.1 hi with h | h; exact HE.out i h; rw [h]; exact HE2.out⟩, (by first | exact ⟨⟨_, rfl⟩⟩ | exact Drawn0.step ⟨⟨_, rfl⟩⟩ _)⟩
          case measure => simp [intOf]; omega
        · have nn : ¬ (el ByteArray.empty l j).toList = (el ByteArray.empty m j).toList := fun q => he (bytes_ext q)
          have b2 : ((el ByteArray.empty l j).toList == (el ByteArray.empty m j).toList) = false := beq_eq_false_iff_ne.mpr nn
          have b3 : ((el ByteArray.empty l j).toList != (el ByteArray.empty m j).toList) = true := bne_iff_ne.mpr nn
          clear nn
          have HE2 := Aside0.mk he
          clear he
          go_wp2
          go_quiet (fail)
          go_wp2
          go_ret
          exact ⟨by rw [decide_eq_false (fun h => HE2.out (by rw [h]))]; rfl, (by first | exact ⟨⟨_, rfl⟩⟩ | exact Drawn0.step ⟨⟨_, rfl⟩⟩ _)⟩
      · go_wp2
        go_ret
        exact ⟨by rw [decide_eq_true (el_ext ByteArray.empty HL.out (fun i hi => HE.out i (by omega)))]; rfl, ⟨⟨_, rfl⟩⟩⟩
  · have b1 : ((l.length : Int) != (m.length : Int)) = true := by simp; omega
    have HL := Aside0.mk hlen
    clear hr hr2 hlen
    go_enter Try.func172, Try.ntmps172
    go_wp2
    go_ret
    exact ⟨by rw [decide_eq_false (fun h => HL.out (by rw [h]))]; rfl, Drawn0.refl _⟩
set_option maxHeartbeats 4000000 in
set_option maxRecDepth 100000 in
theorem eqNode (x y : Node) (cs ds : List Value) (w : World) (hk : kNodeI.K w x cs) (hk2 : kNodeI.K w y ds) :
    Calls Try.prog 111 #[.agg ⟨cs⟩, .agg ⟨ds⟩] w fun e w' => e = .returned (.bool (decide (x = y))) ∧ Below w.heap.size w w' := by
  obtain ⟨pA4, pc4, pA5, pc5, rfl, pl4, pg4, pl5, pg5⟩ := kNodeI_open hk
  have pG4 := Aside0.mk pg4; have pL4 := Aside0.mk pl4; clear pg4 pl4
  have pG5 := Aside0.mk pg5; have pL5 := Aside0.mk pl5; clear pg5 pl5
  obtain ⟨qA4, qc4, qA5, qc5, rfl, ql4, qg4, ql5, qg5⟩ := kNodeI_open hk2
  have qG4 := Aside0.mk qg4; have qL4 := Aside0.mk ql4; clear qg4 ql4
  have qG5 := Aside0.mk qg5; have qL5 := Aside0.mk ql5; clear qg5 ql5
  clear hk hk2
  have hu := Try.underlying142
  have A0 := Aside0.mk (((At.start w).alloc #[.int .i64 x.kind, .int .i64 x.a, .int .i64 x.b, .int .i64 x.c, .slice pA4 x.list.length pc4, .slice pA5 x.names.length pc5, .int .u64 x.num, .int .i64 x.at_] 142).alloc #[.int .i64 y.kind, .int .i64 y.a, .int .i64 y.b, .int .i64 y.c, .slice qA4 y.list.length qc4, .slice qA5 y.names.length qc5, .int .u64 y.num, .int .i64 y.at_] 142)
  rw [show (w.alloc (.cells #[.int .i64 x.kind, .int .i64 x.a, .int .i64 x.b, .int .i64 x.c, .slice pA4 x.list.length pc4, .slice pA5 x.names.length pc5, .int .u64 x.num, .int .i64 x.at_] 142)).heap.size = w.heap.size + 1 by simp] at A0
  by_cases h0 : x.kind = y.kind
  · skip
    have b0 : (x.kind == y.kind) = true := beq_iff_eq.mpr h0
    have d0 : (x.kind != y.kind) = false := bne_eq_false_iff_eq.mpr h0
    by_cases h1 : x.a = y.a
    · skip
      have b1 : (x.a == y.a) = true := beq_iff_eq.mpr h1
      have d1 : (x.a != y.a) = false := bne_eq_false_iff_eq.mpr h1
      by_cases h2 : x.b = y.b
      · skip
        have b2 : (x.b == y.b) = true := beq_iff_eq.mpr h2
        have d2 : (x.b != y.b) = false := bne_eq_false_iff_eq.mpr h2
        by_cases h3 : x.c = y.c
        · skip
          have b3 : (x.c == y.c) = true := beq_iff_eq.mpr h3
          have d3 : (x.c != y.c) = false := bne_eq_false_iff_eq.mpr h3
          by_cases h4 : x.list = y.list
          · skip
            have d4 : decide (x.list = y.list) = true := decide_eq_true h4
            by_cases h5 : x.names = y.names
            · skip
              have d5 : decide (x.names = y.names) = true := decide_eq_true h5
              by_cases h6 : x.num = y.num
              · skip
                have b6 : (x.num == y.num) = true := beq_iff_eq.mpr h6
                have d6 : (x.num != y.num) = false := bne_eq_false_iff_eq.mpr h6
                by_cases h7 : x.at_ = y.at_
                · skip
                  have b7 : (x.at_ == y.at_) = true := beq_iff_eq.mpr h7
                  have d7 : (x.at_ != y.at_) = false := bne_eq_false_iff_eq.mpr h7
                  have hfin : decide (x = y) = true := decide_eq_true (by cases x; cases y; simp_all)
                  have HF := Aside0.mk hfin
                  clear hfin
                  clear h0
                  clear h1
                  clear h2
                  clear h3
                  clear h4
                  clear h5
                  clear h6
                  clear h7
                  go_enter Try.func111, Try.ntmps111
                  go_wp2_with fail
                  refine (eqIntS _ _ _ _ _ _ _ (A0.out.reads pG4.out) (A0.out.reads qG4.out)).mono ?_
                  rintro e w1 ⟨rfl, hb0⟩
                  have hb : Below _ _ w1 := hb0.below
                  have A1 := Aside0.mk (A0.out.step hb)
                  clear hb hb0 A0
                  have z0 := A1.out.cell1; have z1 := A1.out.cell0
                  go_wp2_with fail
                  refine (eqStringS _ _ _ _ _ _ _ (A1.out.reads pG5.out) (A1.out.reads qG5.out)).mono ?_
                  rintro e w2 ⟨rfl, hb0⟩
                  have hb : Below _ _ w2 := hb0.below
                  have A2 := Aside0.mk (A1.out.step hb)
                  clear hb hb0 A1 z0 z1
                  have z0 := A2.out.cell1; have z1 := A2.out.cell0
                  go_wp2
                  go_ret
                  exact ⟨by rw [HF.out]; rfl, A2.out.below⟩
                · skip
                  have b7 : (x.at_ == y.at_) = false := beq_eq_false_iff_ne.mpr h7
                  have d7 : (x.at_ != y.at_) = true := bne_iff_ne.mpr h7
                  have hfin : decide (x = y) = false := decide_eq_false (fun e => h7 (by rw [e]))
                  have HF := Aside0.mk hfin
                  clear hfin
                  clear h0
                  clear h1
                  clear h2
                  clear h3
                  clear h4
                  clear h5
                  clear h6
                  clear h7
                  go_enter Try.func111, Try.ntmps111
                  go_wp2_with fail
                  refine (eqIntS _ _ _ _ _ _ _ (A0.out.reads pG4.out) (A0.out.reads qG4.out)).mono ?_
                  rintro e w1 ⟨rfl, hb0⟩
                  have hb : Below _ _ w1 := hb0.below
                  have A1 := Aside0.mk (A0.out.step hb)
                  clear hb hb0 A0
                  have z0 := A1.out.cell1; have z1 := A1.out.cell0
                  go_wp2_with fail
                  refine (eqStringS _ _ _ _ _ _ _ (A1.out.reads pG5.out) (A1.out.reads qG5.out)).mono ?_
                  rintro e w2 ⟨rfl, hb0⟩
                  have hb : Below _ _ w2 := hb0.below
                  have A2 := Aside0.mk (A1.out.step hb)
                  clear hb hb0 A1 z0 z1
                  have z0 := A2.out.cell1; have z1 := A2.out.cell0
                  go_wp2
                  go_ret
                  exact ⟨by rw [HF.out]; rfl, A2.out.below⟩
              · skip
                have b6 : (x.num == y.num) = false := beq_eq_false_iff_ne.mpr h6
                have d6 : (x.num != y.num) = true := bne_iff_ne.mpr h6
                have hfin : decide (x = y) = false := decide_eq_false (fun e => h6 (by rw [e]))
                have HF := Aside0.mk hfin
                clear hfin
                clear h0
                clear h1
                clear h2
                clear h3
                clear h4
                clear h5
                clear h6
                go_enter Try.func111, Try.ntmps111
                go_wp2_with fail
                refine (eqIntS _ _ _ _ _ _ _ (A0.out.reads pG4.out) (A0.out.reads qG4.out)).mono ?_
                rintro e w1 ⟨rfl, hb0⟩
                have hb : Below _ _ w1 := hb0.below
                have A1 := Aside0.mk (A0.out.step hb)
                clear hb hb0 A0
                have z0 := A1.out.cell1; have z1 := A1.out.cell0
                go_wp2_with fail
                refine (eqStringS _ _ _ _ _ _ _ (A1.out.reads pG5.out) (A1.out.reads qG5.out)).mono ?_
                rintro e w2 ⟨rfl, hb0⟩
                have hb : Below _ _ w2 := hb0.below
                have A2 := Aside0.mk (A1.out.step hb)
                clear hb hb0 A1 z0 z1
                have z0 := A2.out.cell1; have z1 := A2.out.cell0
                go_wp2
                go_ret
                exact ⟨by rw [HF.out]; rfl, A2.out.below⟩
            · skip
              have d5 : decide (x.names = y.names) = false := decide_eq_false h5
              have hfin : decide (x = y) = false := decide_eq_false (fun e => h5 (by rw [e]))
              have HF := Aside0.mk hfin
              clear hfin
              clear h0
              clear h1
              clear h2
              clear h3
              clear h4
              clear h5
              go_enter Try.func111, Try.ntmps111
              go_wp2_with fail
              refine (eqIntS _ _ _ _ _ _ _ (A0.out.reads pG4.out) (A0.out.reads qG4.out)).mono ?_
              rintro e w1 ⟨rfl, hb0⟩
              have hb : Below _ _ w1 := hb0.below
              have A1 := Aside0.mk (A0.out.step hb)
              clear hb hb0 A0
              have z0 := A1.out.cell1; have z1 := A1.out.cell0
              go_wp2_with fail
              refine (eqStringS _ _ _ _ _ _ _ (A1.out.reads pG5.out) (A1.out.reads qG5.out)).mono ?_
              rintro e w2 ⟨rfl, hb0⟩
              have hb : Below _ _ w2 := hb0.below
              have A2 := Aside0.mk (A1.out.step hb)
              clear hb hb0 A1 z0 z1
              have z0 := A2.out.cell1; have z1 := A2.out.cell0
              go_wp2
              go_ret
              exact ⟨by rw [HF.out]; rfl, A2.out.below⟩
          · skip
            have d4 : decide (x.list = y.list) = false := decide_eq_false h4
            have hfin : decide (x = y) = false := decide_eq_false (fun e => h4 (by rw [e]))
            have HF := Aside0.mk hfin
            clear hfin
            clear h0
            clear h1
            clear h2
            clear h3
            clear h4
            go_enter Try.func111, Try.ntmps111
            go_wp2_with fail
            refine (eqIntS _ _ _ _ _ _ _ (A0.out.reads pG4.out) (A0.out.reads qG4.out)).mono ?_
            rintro e w1 ⟨rfl, hb0⟩
            have hb : Below _ _ w1 := hb0.below
            have A1 := Aside0.mk (A0.out.step hb)
            clear hb hb0 A0
            have z0 := A1.out.cell1; have z1 := A1.out.cell0
            go_wp2
            go_ret
            exact ⟨by rw [HF.out]; rfl, A1.out.below⟩
        · skip
          have b3 : (x.c == y.c) = false := beq_eq_false_iff_ne.mpr h3
          have d3 : (x.c != y.c) = true := bne_iff_ne.mpr h3
          have hfin : decide (x = y) = false := decide_eq_false (fun e => h3 (by rw [e]))
          have HF := Aside0.mk hfin
          clear hfin
          clear h0
          clear h1
          clear h2
          clear h3
          go_enter Try.func111, Try.ntmps111
          go_wp2
          go_ret
          exact ⟨by rw [HF.out]; rfl, by repeat (first | exact Below.refl _ _ | apply below_alloc | apply below_drew1 | apply pw_below_drewN | assumption)⟩
      · skip
        have b2 : (x.b == y.b) = false := beq_eq_false_iff_ne.mpr h2
        have d2 : (x.b != y.b) = true := bne_iff_ne.mpr h2
        have hfin : decide (x = y) = false := decide_eq_false (fun e => h2 (by rw [e]))
        have HF := Aside0.mk hfin
        clear hfin
        clear h0
        clear h1
        clear h2
        go_enter Try.func111, Try.ntmps111
        go_wp2
        go_ret
        exact ⟨by rw [HF.out]; rfl, by repeat (first | exact Below.refl _ _ | apply below_alloc | apply below_drew1 | apply pw_below_drewN | assumption)⟩
    · skip
      have b1 : (x.a == y.a) = false := beq_eq_false_iff_ne.mpr h1
      have d1 : (x.a != y.a) = true := bne_iff_ne.mpr h1
      have hfin : decide (x = y) = false := decide_eq_false (fun e => h1 (by rw [e]))
      have HF := Aside0.mk hfin
      clear hfin
      clear h0
      clear h1
      go_enter Try.func111, Try.ntmps111
      go_wp2
      go_ret
      exact ⟨by rw [HF.out]; rfl, by repeat (first | exact Below.refl _ _ | apply below_alloc | apply below_drew1 | apply pw_below_drewN | assumption)⟩
  · skip
    have b0 : (x.kind == y.kind) = false := beq_eq_false_iff_ne.mpr h0
    have d0 : (x.kind != y.kind) = true := bne_iff_ne.mpr h0
    have hfin : decide (x = y) = false := decide_eq_false (fun e => h0 (by rw [e]))
    have HF := Aside0.mk hfin
    clear hfin
    clear h0
    go_enter Try.func111, Try.ntmps111
    go_wp2
    go_ret
    exact ⟨by rw [HF.out]; rfl, by repeat (first | exact Below.refl _ _ | apply below_alloc | apply below_drew1 | apply pw_below_drewN | assumption)⟩
set_option maxHeartbeats 4000000 in
set_option maxRecDepth 100000 in
theorem eqNodeS (A B : Option Addr) (c d : Nat) (l m : List Node) (w : World) (hr : kNodeI.C w A l.length l) (hr2 : kNodeI.C w B m.length m) :
    Calls Try.prog 56 #[.slice A l.length c, .slice B m.length d] w fun e w' => e = .returned (.bool (decide (l = m))) ∧ Below w.heap.size w w' := by
  have hL : l.length ≤ 9223372036854775807 := hr.2.1
  by_cases hlen : l.length = m.length
  · have b1 : ((l.length : Int) != (m.length : Int)) = false := by simp [hlen]
    have HR := Aside0.mk hr; have HR2 := Aside0.mk hr2; have HL := Aside0.mk hlen
    clear hr hr2 hlen
    go_enter Try.func56, Try.ntmps56
    go_wp2
    go_loopw [5] (fun v wr => ∃ j : Nat, v = .int .i64 j ∧ j ≤ l.length ∧ Aside0 (∀ i : Nat, i < j → el zNode l i = el zNode m i) ∧ Aside0 (Below w.heap.size w wr)) (fun v _ => l.length - (intOf v).toNat)
    case atStart => exact ⟨0, rfl, by omega, ⟨fun i hi => by omega⟩, ⟨Below.refl _ _⟩⟩
    case round =>
      obtain ⟨j, rfl, hj, HE, HW⟩ := hrel
      by_cases hlt : j < l.length
      · obtain ⟨pa, pA4, pc4, pA5, pc5, rfl, pK, px0, px1, px2, px3, px4, px5, px6, px7⟩ := NodeI_at (Kd.C_below HR.out HW.out) j hlt
        have pK2 := Aside0.mk pK; clear pK
        obtain ⟨qa, qA4, qc4, qA5, qc5, rfl, qK, qx0, qx1, qx2, qx3, qx4, qx5, qx6, qx7⟩ := NodeI_at (Kd.C_below HR2.out HW.out) j (by have := HL.out; omega)
        have qK2 := Aside0.mk qK; clear qK
        have i1 : (0 : Int) ≤ (j : Int) := by omega
        have i2 : (j : Int) < (l.length : Int) := by omega
        have i3 : (j : Int) < (m.length : Int) := by have := HL.out; omega
        by_cases he : el zNode l j = el zNode m j
        · have b2 : decide (el zNode l j = el zNode m j) = true := decide_eq_true he
          have HE2 := Aside0.mk he
          clear he
          go_wp2
          have HS : Aside0 (∀ W : World, Below wr.heap.size wr W → W.cell? (pa.add (j * 8)) = some (.int .i64 (el zNode l j).kind) ∧ W.cell? ⟨(pa.add (j * 8)).block, (pa.add (j * 8)).off + 1, none⟩ = some (.int .i64 (el zNode l j).a) ∧ W.cell? ⟨(pa.add (j * 8)).block, (pa.add (j * 8)).off + 2, none⟩ = some (.int .i64 (el zNode l j).b) ∧ W.cell? ⟨(pa.add (j * 8)).block, (pa.add (j * 8)).off + 3, none⟩ = some (.int .i64 (el zNode l j).c) ∧ W.cell? ⟨(pa.add (j * 8)).block, (pa.add (j * 8)).off + 4, none⟩ = some (.slice pA4 (el zNode l j).list.length pc4) ∧ W.cell? ⟨(pa.add (j * 8)).block, (pa.add (j * 8)).off + 5, none⟩ = some (.slice pA5 (el zNode l j).names.length pc5) ∧ W.cell? ⟨(pa.add (j * 8)).block, (pa.add (j * 8)).off + 6, none⟩ = some (.int .u64 (el zNode l j).num) ∧ W.cell? ⟨(pa.add (j * 8)).block, (pa.add (j * 8)).off + 7, none⟩ = some (.int .i64 (el zNode l j).at_) ∧ W.cell? (qa.add (j * 8)) = some (.int .i64 (el zNode m j).kind) ∧ W.cell? ⟨(qa.add (j * 8)).block, (qa.add (j * 8)).off + 1, none⟩ = some (.int .i64 (el zNode m j).a) ∧ W.cell? ⟨(qa.add (j * 8)).block, (qa.add (j * 8)).off + 2, none⟩ = some (.int .i64 (el zNode m j).b) ∧ W.cell? ⟨(qa.add (j * 8)).block, (qa.add (j * 8)).off + 3, none⟩ = some (.int .i64 (el zNode m j).c) ∧ W.cell? ⟨(qa.add (j * 8)).block, (qa.add (j * 8)).off + 4, none⟩ = some (.slice qA4 (el zNode m j).list.length qc4) ∧ W.cell? ⟨(qa.add (j * 8)).block, (qa.add (j * 8)).off + 5, none⟩ = some (.slice qA5 (el zNode m j).names.length qc5) ∧ W.cell? ⟨(qa.add (j * 8)).block, (qa.add (j * 8)).off + 6, none⟩ = some (.int .u64 (el zNode m j).num) ∧ W.cell? ⟨(qa.add (j * 8)).block, (qa.add (j * 8)).off + 7, none⟩ = some (.int .i64 (el zNode m j).at_)) := ⟨fun W hB => ⟨pw_cell_below hB px0, pw_cell_below hB px1, pw_cell_below hB px2, pw_cell_below hB px3, pw_cell_below hB px4, pw_cell_below hB px5, pw_cell_below hB px6, pw_cell_below hB px7, pw_cell_below hB qx0, pw_cell_below hB qx1, pw_cell_below hB qx2, pw_cell_below hB qx3, pw_cell_below hB qx4, pw_cell_below hB qx5, pw_cell_below hB qx6, pw_cell_below hB qx7⟩⟩
          go_region_held3 (fun W => W.cell? (pa.add (j * 8)) = some (.int .i64 (el zNode l j).kind) ∧ W.cell? ⟨(pa.add (j * 8)).block, (pa.add (j * 8)).off + 1, none⟩ = some (.int .i64 (el zNode l j).a) ∧ W.cell? ⟨(pa.add (j * 8)).block, (pa.add (j * 8)).off + 2, none⟩ = some (.int .i64 (el zNode l j).b) ∧ W.cell? ⟨(pa.add (j * 8)).block, (pa.add (j * 8)).off + 3, none⟩ = some (.int .i64 (el zNode l j).c) ∧ W.cell? ⟨(pa.add (j * 8)).block, (pa.add (j * 8)).off + 4, none⟩ = some (.slice pA4 (el zNode l j).list.length pc4) ∧ W.cell? ⟨(pa.add (j * 8)).block, (pa.add (j * 8)).off + 5, none⟩ = some (.slice pA5 (el zNode l j).names.length pc5) ∧ W.cell? ⟨(pa.add (j * 8)).block, (pa.add (j * 8)).off + 6, none⟩ = some (.int .u64 (el zNode l j).num) ∧ W.cell? ⟨(pa.add (j * 8)).block, (pa.add (j * 8)).off + 7, none⟩ = some (.int .i64 (el zNode l j).at_) ∧ W.cell? (qa.add (j * 8)) = some (.int .i64 (el zNode m j).kind) ∧ W.cell? ⟨(qa.add (j * 8)).block, (qa.add (j * 8)).off + 1, none⟩ = some (.int .i64 (el zNode m j).a) ∧ W.cell? ⟨(qa.add (j * 8)).block, (qa.add (j * 8)).off + 2, none⟩ = some (.int .i64 (el zNode m j).b) ∧ W.cell? ⟨(qa.add (j * 8)).block, (qa.add (j * 8)).off + 3, none⟩ = some (.int .i64 (el zNode m j).c) ∧ W.cell? ⟨(qa.add (j * 8)).block, (qa.add (j * 8)).off + 4, none⟩ = some (.slice qA4 (el zNode m j).list.length qc4) ∧ W.cell? ⟨(qa.add (j * 8)).block, (qa.add (j * 8)).off + 5, none⟩ = some (.slice qA5 (el zNode m j).names.length qc5) ∧ W.cell? ⟨(qa.add (j * 8)).block, (qa.add (j * 8)).off + 6, none⟩ = some (.int .u64 (el zNode m j).num) ∧ W.cell? ⟨(qa.add (j * 8)).block, (qa.add (j * 8)).off + 7, none⟩ = some (.int .i64 (el zNode m j).at_)) (first | exact HS.out _ (below_step (below_drew1 (Below.refl _ _)) hb) | exact HS.out _ (below_drew1 (Below.refl _ _))) (first | (go_at_call 111; refine (eqNode (el zNode l j) (el zNode m j) _ _ _ ?s1 ?s2).mono ?_; (case s1 => exact Kd.K_drew0 pK2.out); (case s2 => exact Kd.K_drew0 qK2.out); rintro e w1 ⟨rfl, hb⟩))
          go_wp2
          go_roundw
          case rel => exact ⟨j + 1, by go_num, by omega, ⟨fun i hi => by rcases Nat.lt_succ_iff_lt_or_eq.1 hi with h | h; exact HE.out i h; rw [h]; exact HE2.out⟩, ⟨below_step (below_drew1 HW.out) hb⟩⟩
          case measure => simp [intOf]; omega
        · have b2 : decide (el zNode l j = el zNode m j) = false := decide_eq_false he
          have HE2 := Aside0.mk he
          clear he
          go_wp2
          have HS : Aside0 (∀ W : World, Below wr.heap.size wr W → W.cell? (pa.add (j * 8)) = some (.int .i64 (el zNode l j).kind) ∧ W.cell? ⟨(pa.add (j * 8)).block, (pa.add (j * 8)).off + 1, none⟩ = some (.int .i64 (el zNode l j).a) ∧ W.cell? ⟨(pa.add (j * 8)).block, (pa.add (j * 8)).off + 2, none⟩ = some (.int .i64 (el zNode l j).b) ∧ W.cell? ⟨(pa.add (j * 8)).block, (pa.add (j * 8)).off + 3, none⟩ = some (.int .i64 (el zNode l j).c) ∧ W.cell? ⟨(pa.add (j * 8)).block, (pa.add (j * 8)).off + 4, none⟩ = some (.slice pA4 (el zNode l j).list.length pc4) ∧ W.cell? ⟨(pa.add (j * 8)).block, (pa.add (j * 8)).off + 5, none⟩ = some (.slice pA5 (el zNode l j).names.length pc5) ∧ W.cell? ⟨(pa.add (j * 8)).block, (pa.add (j * 8)).off + 6, none⟩ = some (.int .u64 (el zNode l j).num) ∧ W.cell? ⟨(pa.add (j * 8)).block, (pa.add (j * 8)).off + 7, none⟩ = some (.int .i64 (el zNode l j).at_) ∧ W.cell? (qa.add (j * 8)) = some (.int .i64 (el zNode m j).kind) ∧ W.cell? ⟨(qa.add (j * 8)).block, (qa.add (j * 8)).off + 1, none⟩ = some (.int .i64 (el zNode m j).a) ∧ W.cell? ⟨(qa.add (j * 8)).block, (qa.add (j * 8)).off + 2, none⟩ = some (.int .i64 (el zNode m j).b) ∧ W.cell? ⟨(qa.add (j * 8)).block, (qa.add (j * 8)).off + 3, none⟩ = some (.int .i64 (el zNode m j).c) ∧ W.cell? ⟨(qa.add (j * 8)).block, (qa.add (j * 8)).off + 4, none⟩ = some (.slice qA4 (el zNode m j).list.length qc4) ∧ W.cell? ⟨(qa.add (j * 8)).block, (qa.add (j * 8)).off + 5, none⟩ = some (.slice qA5 (el zNode m j).names.length qc5) ∧ W.cell? ⟨(qa.add (j * 8)).block, (qa.add (j * 8)).off + 6, none⟩ = some (.int .u64 (el zNode m j).num) ∧ W.cell? ⟨(qa.add (j * 8)).block, (qa.add (j * 8)).off + 7, none⟩ = some (.int .i64 (el zNode m j).at_)) := ⟨fun W hB => ⟨pw_cell_below hB px0, pw_cell_below hB px1, pw_cell_below hB px2, pw_cell_below hB px3, pw_cell_below hB px4, pw_cell_below hB px5, pw_cell_below hB px6, pw_cell_below hB px7, pw_cell_below hB qx0, pw_cell_below hB qx1, pw_cell_below hB qx2, pw_cell_below hB qx3, pw_cell_below hB qx4, pw_cell_below hB qx5, pw_cell_below hB qx6, pw_cell_below hB qx7⟩⟩
          go_region_held3 (fun W => W.cell? (pa.add (j * 8)) = some (.int .i64 (el zNode l j).kind) ∧ W.cell? ⟨(pa.add (j * 8)).block, (pa.add (j * 8)).off + 1, none⟩ = some (.int .i64 (el zNode l j).a) ∧ W.cell? ⟨(pa.add (j * 8)).block, (pa.add (j * 8)).off + 2, none⟩ = some (.int .i64 (el zNode l j).b) ∧ W.cell? ⟨(pa.add (j * 8)).block, (pa.add (j * 8)).off + 3, none⟩ = some (.int .i64 (el zNode l j).c) ∧ W.cell? ⟨(pa.add (j * 8)).block, (pa.add (j * 8)).off + 4, none⟩ = some (.slice pA4 (el zNode l j).list.length pc4) ∧ W.cell? ⟨(pa.add (j * 8)).block, (pa.add (j * 8)).off + 5, none⟩ = some (.slice pA5 (el zNode l j).names.length pc5) ∧ W.cell? ⟨(pa.add (j * 8)).block, (pa.add (j * 8)).off + 6, none⟩ = some (.int .u64 (el zNode l j).num) ∧ W.cell? ⟨(pa.add (j * 8)).block, (pa.add (j * 8)).off + 7, none⟩ = some (.int .i64 (el zNode l j).at_) ∧ W.cell? (qa.add (j * 8)) = some (.int .i64 (el zNode m j).kind) ∧ W.cell? ⟨(qa.add (j * 8)).block, (qa.add (j * 8)).off + 1, none⟩ = some (.int .i64 (el zNode m j).a) ∧ W.cell? ⟨(qa.add (j * 8)).block, (qa.add (j * 8)).off + 2, none⟩ = some (.int .i64 (el zNode m j).b) ∧ W.cell? ⟨(qa.add (j * 8)).block, (qa.add (j * 8)).off + 3, none⟩ = some (.int .i64 (el zNode m j).c) ∧ W.cell? ⟨(qa.add (j * 8)).block, (qa.add (j * 8)).off + 4, none⟩ = some (.slice qA4 (el zNode m j).list.length qc4) ∧ W.cell? ⟨(qa.add (j * 8)).block, (qa.add (j * 8)).off + 5, none⟩ = some (.slice qA5 (el zNode m j).names.length qc5) ∧ W.cell? ⟨(qa.add (j * 8)).block, (qa.add (j * 8)).off + 6, none⟩ = some (.int .u64 (el zNode m j).num) ∧ W.cell? ⟨(qa.add (j * 8)).block, (qa.add (j * 8)).off + 7, none⟩ = some (.int .i64 (el zNode m j).at_)) (first | exact HS.out _ (below_step (below_drew1 (Below.refl _ _)) hb) | exact HS.out _ (below_drew1 (Below.refl _ _))) (first | (go_at_call 111; refine (eqNode (el zNode l j) (el zNode m j) _ _ _ ?s1 ?s2).mono ?_; (case s1 => exact Kd.K_drew0 pK2.out); (case s2 => exact Kd.K_drew0 qK2.out); rintro e w1 ⟨rfl, hb⟩))
          go_wp2
          go_ret
          exact ⟨by rw [decide_eq_false (fun h => HE2.out (by rw [h]))]; rfl, below_step (below_drew1 HW.out) hb⟩
      · go_wp2
        go_ret
        exact ⟨by rw [decide_eq_true (el_ext zNode HL.out (fun i hi => HE.out i (by omega)))]; rfl, HW.out⟩
  · have b1 : ((l.length : Int) != (m.length : Int)) = true := by simp; omega
    have HL := Aside0.mk hlen
    clear hr hr2 hlen
    go_enter Try.func56, Try.ntmps56
    go_wp2
    go_ret
    exact ⟨by rw [decide_eq_false (fun h => HL.out (by rw [h]))]; rfl, Below.refl _ _⟩
end Go.Proofs.Ytlhfhfamifmijaa
end
