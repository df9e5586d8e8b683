/- Part 9 of the proof: general lemmas, contracts of functions, walks. No condition of its own. -/
import Derived.Deep.AppendSrc
import Derived.Deep.Upon
import Derived.Laws.IdiomStrings
import Derived.Lib.SlBytesConst
import Derived.Laws.BitsAllLaws
import Derived.Laws.Bits64
import Derived.RowKit
import Derived.Test.YtcbaokflimdjnaaBr1
import Derived.Test.YtcbaokflimdjnaaBr8
import Derived.Test.YtcbaokflimdjnaaBr5
set_option linter.unusedVariables false
set_option linter.unusedSimpArgs false
section
namespace Go.Proofs.Ytcbaokflimdjnaa.Law
open Go.RowKit Go.Proofs.YtcbaokflimdjnaaW.PrintWords Go.Proofs.YtcbaokflimdjnaaW.PrintMore
theorem bytes_ext {a b : ByteArray} (h : a.toList = b.toList) : a = b := by
 have e : ∀ x : ByteArray, x.toList = x.data.toList := fun x => ByteArray.toList_eq x
 rw [e, e] at h
 cases a
 cases b
 congr
 exact Array.ext' h
theorem Kd.K_drew0 {α : Type} {d : Kd α} {w : World} {x : α} {cs : List Value} (h : d.K w x cs) : d.K w.drew x cs := d.K_below (below_drew1 (Below.refl _ _)) h
structure At (w W : World) (L : List (Nat × Array Value × TypeId)) : Prop where
 below : Below w.heap.size w W
 box : ∀ b ∈ L, W.heap[b.1]? = some (.cells b.2.1 b.2.2 (0, 0))
theorem At.step {w W W2 : World} {L : List (Nat × Array Value × TypeId)} (h : At w W L) (hb : Below W.heap.size W W2) : At w W2 L := ⟨below_step h.below hb, fun b hm => blk_below (h.box b hm) hb⟩
theorem At.drew {w W : World} {L : List (Nat × Array Value × TypeId)} (h : At w W L) : At w W.drew L := ⟨below_drew1 h.below, fun b hm => h.box b hm⟩
theorem At.start (w : World) : At w w [] := ⟨Below.refl _ _, fun b hm => by cases hm⟩
theorem At.alloc {w W : World} {L : List (Nat × Array Value × TypeId)} (h : At w W L) (cs : Array Value) (t : TypeId) : At w (W.alloc (.cells cs t)) ((W.heap.size, cs, t) :: L) := by
 refine ⟨below_alloc h.below _, fun b hm => ?_⟩
 rcases List.mem_cons.1 hm with rfl | hm
 ·exact blk_new W _
 ·exact blk_alloc (h.box b hm) _
theorem At.cell {w W : World} {L : List (Nat × Array Value × TypeId)} (h : At w W L) {g : Nat} {cs : Array Value} {t : TypeId} (hm : (g, cs, t) ∈ L) : ∀ o, W.cell? ⟨g, o, none⟩ = cs[o]? := fun o => blk_cell (h.box _ hm) o
theorem At.cell0 {w W : World} {L : List (Nat × Array Value × TypeId)} {g : Nat} {cs : Array Value} {t : TypeId} (h : At w W ((g, cs, t) :: L)) : ∀ o, W.cell? ⟨g, o, none⟩ = cs[o]? := h.cell (t := t) (by simp)
theorem At.cell1 {w W : World} {L : List (Nat × Array Value × TypeId)} {b0 : Nat × Array Value × TypeId} {g : Nat} {cs : Array Value} {t : TypeId} (h : At w W (b0 :: (g, cs, t) :: L)) : ∀ o, W.cell? ⟨g, o, none⟩ = cs[o]? := h.cell (t := t) (by simp)
theorem At.free {w W : World} {L : List (Nat × Array Value × TypeId)} (h : At w W L) {g : Nat} {cs : Array Value} {t : TypeId} (hm : (g, cs, t) ∈ L) : ∀ o, W.frozen? ⟨g, o, none⟩ = false := fun o => blk_frozen (h.box _ hm) o
theorem At.reads {α : Type} {d : Kd α} {w W : World} {L : List (Nat × Array Value × TypeId)} {A : Option Addr} {n : Nat} {xs : List α} (h : At w W L) (hr : d.C w A n xs) : d.C W A n xs := Kd.C_below hr h.below
theorem At.mono {w W : World} {L L' : List (Nat × Array Value × TypeId)} (h : At w W L) (hs : ∀ b ∈ L', b ∈ L) : At w W L' := ⟨h.below, fun b hm => h.box b (hs b hm)⟩
end Go.Proofs.Ytcbaokflimdjnaa.Law
end
section
namespace Go.Proofs.Ytcbaokflimdjnaa.Law
open Go.RowKit Go.Proofs.YtcbaokflimdjnaaW.PrintWords Go.Proofs.YtcbaokflimdjnaaW.PrintMore
structure Hold where
 lo : Nat
 hi : Nat
 P : World → Prop
 mv : ∀ {W W2 : World}, (∀ k, lo ≤ k → k < hi → k < W.heap.size → W2.heap[k]? = W.heap[k]?) → P W → P W2
def Hold.box (g : Nat) (cs : Array Value) (t : TypeId) : Hold := ⟨g, g + 1, fun W => W.heap[g]? = some (.cells cs t (0, 0)), fun hm h => (hm g (Nat.le_refl _) (Nat.lt_succ_self _) (blk_lt h)).trans h⟩
def Hold.val {α : Type} (d : Kd α) (lo hi : Nat) (x : α) (cs : List Value) : Hold := ⟨lo, hi, fun W => d.M W lo (fun k => lo ≤ k ∧ k < hi) x cs, fun hm h => Kd.M_step h (fun k hk hlt => hm k hk.1 hk.2 hlt)⟩
structure Mem (w W : World) (H : List Hold) : Prop where
 below : Below w.heap.size w W
 says : ∀ h ∈ H, h.P W
 fits : ∀ h ∈ H, w.heap.size ≤ h.lo ∧ h.hi ≤ W.heap.size
 apart : H.Pairwise (fun a b => b.hi ≤ a.lo ∨ a.hi ≤ b.lo)
theorem Mem.start (w : World) : Mem w w [] := ⟨Below.refl _ _, fun _ h => absurd h List.not_mem_nil, fun _ h => absurd h List.not_mem_nil, List.Pairwise.nil⟩
theorem Mem.step {w W W2 : World} {H : List Hold} (h : Mem w W H) (hb : Below W.heap.size W W2) : Mem w W2 H :=
 ⟨below_step h.below hb, fun x hx => x.mv (fun k _ _ hlt => hb.block k hlt) (h.says x hx), fun x hx => ⟨(h.fits x hx).1, Nat.le_trans (h.fits x hx).2 hb.size⟩, h.apart⟩
theorem Mem.drew {w W : World} {H : List Hold} (h : Mem w W H) : Mem w W.drew H := h.step (below_drew1 (Below.refl _ _))
theorem Mem.alloc {w W : World} {H : List Hold} (h : Mem w W H) (cs : Array Value) (t : TypeId) : Mem w (W.alloc (.cells cs t)) (Hold.box W.heap.size cs t :: H) := by
 have h2 := h.step (below_alloc (Below.refl W.heap.size W) (.cells cs t))
 refine ⟨h2.below, fun x hx => ?_, fun x hx => ?_, List.Pairwise.cons (fun b hb => .inl (h.fits b hb).2) h.apart⟩
 ·rcases List.mem_cons.1 hx with rfl | hx
  ·exact blk_new W _
  ·exact h2.says x hx
 ·rcases List.mem_cons.1 hx with rfl | hx
  ·exact ⟨h.below.size, by simp [Hold.box]⟩
  ·exact h2.fits x hx
theorem Mem.push {α : Type} {d : Kd α} {w W W2 : World} {H : List Hold} {x : α} {cs : List Value} (h : Mem w W H) (hb : Below W.heap.size W W2) (hm : d.M W2 W.heap.size (fun _ => True) x cs) : Mem w W2 (Hold.val d W.heap.size W2.heap.size x cs :: H) := by
 have h2 := h.step hb
 refine ⟨h2.below, fun y hy => ?_, fun y hy => ?_, List.Pairwise.cons (fun b hb => .inl (h.fits b hb).2) h.apart⟩
 ·rcases List.mem_cons.1 hy with rfl | hy
  ·exact d.M_mono (fun k hk => ⟨hk.2.1, hk.2.2.1⟩) (d.M_bound hm)
  ·exact h2.says y hy
 ·rcases List.mem_cons.1 hy with rfl | hy
  ·exact ⟨h.below.size, Nat.le_refl _⟩
  ·exact h2.fits y hy
theorem Mem.box {w W : World} {H : List Hold} {g : Nat} {cs : Array Value} {t : TypeId} (h : Mem w W H) (hm : Hold.box g cs t ∈ H) : ∀ o, W.cell? ⟨g, o, none⟩ = cs[o]? := fun o => blk_cell (h.says _ hm) o
theorem Mem.val {α : Type} {d : Kd α} {w W : World} {H : List Hold} {lo hi : Nat} {x : α} {cs : List Value} (h : Mem w W H) (hm : Hold.val d lo hi x cs ∈ H) : d.M W lo (fun k => lo ≤ k ∧ k < hi) x cs := h.says _ hm
theorem Mem.read {α : Type} {d : Kd α} {w W : World} {H : List Hold} {lo hi : Nat} {x : α} {cs : List Value} (h : Mem w W H) (hm : Hold.val d lo hi x cs ∈ H) : d.K W x cs := d.K_of_M (h.val hm)
theorem Mem.drop {w W : World} {h0 : Hold} {H : List Hold} (h : Mem w W (h0 :: H)) : Mem w W H := ⟨h.below, fun x hx => h.says x (.tail _ hx), fun x hx => h.fits x (.tail _ hx), (List.pairwise_cons.1 h.apart).2⟩
theorem Mem.allocAt {w W : World} {H : List Hold} (h : Mem w W H) {g : Nat} (hg : g = W.heap.size) (cs : Array Value) (t : TypeId) : Mem w (W.alloc (.cells cs t)) (Hold.box g cs t :: H) := hg ▸ h.alloc cs t
theorem Mem.pushR {α : Type} {d : Kd α} {e : Nat} {w W W2 : World} {H : List Hold} {l : List α} {v : Value} (h : Mem w W H) (hb : Below W.heap.size W W2) (hr : d.R e W2 W.heap.size (fun _ => True) v l) : Mem w W2 (Hold.val (Kd.slice e d) W.heap.size W2.heap.size l [v] :: H) := h.push hb ⟨v, rfl, hr⟩
theorem Mem.row {α : Type} {d : Kd α} {e : Nat} {w W : World} {H : List Hold} {lo hi : Nat} {l : List α} {v : Value} (h : Mem w W H) (hm : Hold.val (Kd.slice e d) lo hi l [v] ∈ H) : d.R e W lo (fun k => lo ≤ k ∧ k < hi) v l := by
 obtain ⟨v2, he, hr⟩ := h.val hm
 cases he
 exact hr
theorem Mem.rowT {α : Type} {d : Kd α} {e : Nat} {w W : World} {H : List Hold} {lo hi : Nat} {l : List α} {v : Value} (h : Mem w W H) (hm : Hold.val (Kd.slice e d) lo hi l [v] ∈ H) : d.R e W w.heap.size (fun _ => True) v l := Kd.R_mono (Kd.R_lower (h.row hm) (h.fits _ hm).1) (fun _ _ => trivial)
theorem Mem.free {w W : World} {H : List Hold} {g : Nat} {cs : Array Value} {t : TypeId} (h : Mem w W H) (hm : Hold.box g cs t ∈ H) : ∀ o, W.frozen? ⟨g, o, none⟩ = false := fun o => blk_frozen (h.says _ hm) o
theorem Mem.blk {w W : World} {H : List Hold} {g : Nat} {cs : Array Value} {t : TypeId} (h : Mem w W H) (hm : Hold.box g cs t ∈ H) : W.heap[g]? = some (.cells cs t (0, 0)) := h.says _ hm
theorem Mem.mid {w W : World} {A B : List Hold} {b : Hold} (h : Mem w W (A ++ b :: B)) : Mem w W (A ++ B) := by
 have hs : (A ++ B).Sublist (A ++ b :: B) := (List.Sublist.refl A).append (List.sublist_cons_self b B)
 exact ⟨h.below, fun x hx => h.says x (hs.mem hx), fun x hx => h.fits x (hs.mem hx), h.apart.sublist hs⟩
theorem Mem.swap2 {w W : World} {a b : Hold} {H : List Hold} (h : Mem w W (a :: b :: H)) : Mem w W (b :: a :: H) := by
 have hp := h.apart
 rw [List.pairwise_cons, List.pairwise_cons] at hp
 refine ⟨h.below, fun x hx => h.says x ((List.Perm.swap a b H).mem_iff.1 hx), fun x hx => h.fits x ((List.Perm.swap a b H).mem_iff.1 hx), ?_⟩
 rw [List.pairwise_cons, List.pairwise_cons]
 refine ⟨fun z hz => ?_, fun z hz => hp.1 z (.tail _ hz), hp.2.2⟩
 rcases List.mem_cons.1 hz with rfl | hz
 ·exact (hp.1 b (.head _)).symm
 ·exact hp.2.1 z hz
theorem Mem.swap {w W W2 : World} {A B : List Hold} {a b : Hold} (h : Mem w W (A ++ a :: B)) (hl : b.lo = a.lo) (hh : b.hi = a.hi) (hb : Below w.heap.size w W2) (hk : Kept W W2 (fun k => a.lo ≤ k ∧ k < a.hi)) (hv : b.P W2) : Mem w W2 (A ++ b :: B) := by
 have ha := h.apart
 rw [List.pairwise_append] at ha
 obtain ⟨hA, hB, hAB⟩ := ha
 rw [List.pairwise_cons] at hB
 have key : ∀ z : Hold, (z ∈ A ∨ z ∈ B) → z.P W → z.P W2 := by
  intro z hz hp
  refine z.mv (fun k h1 h2 h3 => hk.2 k h3 ?_) hp
  rintro ⟨h4, h5⟩
  rcases hz with hz | hz
  ·have := hAB z hz a List.mem_cons_self
   omega
  ·have := hB.1 z hz
   omega
 refine ⟨hb, fun z hz => ?_, fun z hz => ?_, ?_⟩
 ·rcases List.mem_append.1 hz with hz | hz
  ·exact key z (.inl hz) (h.says z (List.mem_append_left _ hz))
  ·rcases List.mem_cons.1 hz with rfl | hz
   ·exact hv
   ·exact key z (.inr hz) (h.says z (List.mem_append_right _ (List.mem_cons_of_mem _ hz)))
 ·have hs := hk.1
  rcases List.mem_append.1 hz with hz | hz
  ·have := h.fits z (List.mem_append_left _ hz)
   exact ⟨this.1, Nat.le_trans this.2 hs⟩
  ·rcases List.mem_cons.1 hz with rfl | hz
   ·have := h.fits a (List.mem_append_right _ List.mem_cons_self)
    rw [hl, hh]
    exact ⟨this.1, Nat.le_trans this.2 hs⟩
   ·have := h.fits z (List.mem_append_right _ (List.mem_cons_of_mem _ hz))
    exact ⟨this.1, Nat.le_trans this.2 hs⟩
 ·rw [List.pairwise_append]
  refine ⟨hA, List.pairwise_cons.2 ⟨fun z hz => by rw [hl, hh]; exact hB.1 z hz, hB.2⟩, fun c hc b' hb' => ?_⟩
  rcases List.mem_cons.1 hb' with rfl | hb'
  ·rw [hh, hl]
   exact hAB c hc a List.mem_cons_self
  ·exact hAB c hc b' (List.mem_cons_of_mem _ hb')
theorem Mem.set {w W : World} {A B : List Hold} {g : Nat} {cs : Array Value} {t : TypeId} (h : Mem w W (A ++ Hold.box g cs t :: B)) (j : Nat) (u : Value) {cs' : Array Value} (e : cs.setIfInBounds j u = cs') : Mem w (W.setCell ⟨g, j, none⟩ u) (A ++ Hold.box g cs' t :: B) := by
 have hm : Hold.box g cs t ∈ A ++ Hold.box g cs t :: B := List.mem_append_right _ List.mem_cons_self
 refine Mem.swap (a := Hold.box g cs t) (b := Hold.box g cs' t) h rfl rfl (below_set h.below (h.fits _ hm).1) ?_ (blk_put (h.says _ hm) j u e)
 exact Kept.setCell (Kept.refl _ _) (.inl ⟨Nat.le_refl _, Nat.lt_succ_self _⟩) u
theorem Mem.mark {α : Type} {d : Kd α} {w W W2 : World} {A B : List Hold} {lo hi : Nat} {x y : α} {cs : List Value} (h : Mem w W (A ++ Hold.val d lo hi x cs :: B)) (hb : Below w.heap.size w W2) (hk : Kept W W2 (fun k => lo ≤ k ∧ k < hi)) (hv : d.M W2 lo (fun k => lo ≤ k ∧ k < hi) y cs) : Mem w W2 (A ++ Hold.val d lo hi y cs :: B) :=
 Mem.swap (a := Hold.val d lo hi x cs) (b := Hold.val d lo hi y cs) h rfl rfl hb hk hv
end Go.Proofs.Ytcbaokflimdjnaa.Law
end
section
namespace Go.Proofs.Ytcbaokflimdjnaa.Law
open Go.RowKit Go.Proofs.YtcbaokflimdjnaaW.PrintWords Go.Proofs.YtcbaokflimdjnaaW.PrintMore
def Bts (W : World) (g c : Nat) (l : List Int) : Prop :=
 l.length ≤ c ∧ (∀ j, j < c → (W.cell? ⟨g, j, none⟩).isSome = true ∧ W.frozen? ⟨g, j, none⟩ = false) ∧ ∀ j u, (nums .u8 l)[j]? = some u → W.cell? ⟨g, j, none⟩ = some u
theorem Bts.move {W W2 : World} {g c : Nat} {l : List Int} (h : Bts W g c l) (hm : g < W.heap.size → W2.heap[g]? = W.heap[g]?) : Bts W2 g c l := by
 obtain ⟨h1, h2, h3⟩ := h
 refine ⟨h1, fun j hj => ?_, fun j u hu => ?_⟩
 ·obtain ⟨h4, h5⟩ := h2 j hj
  obtain ⟨v, hv⟩ := Option.isSome_iff_exists.1 h4
  have hb := hm (World.block_lt_of_cell? W _ hv)
  exact ⟨(World.cell?_of_block (a := ⟨g, j, none⟩) hb).symm ▸ h4, (World.frozen?_of_block (a := ⟨g, j, none⟩) hb).trans h5⟩
 ·have hv := h3 j u hu
  exact (World.cell?_of_block (a := ⟨g, j, none⟩) (hm (World.block_lt_of_cell? W _ hv))).trans hv
def Hold.bts (g c : Nat) (l : List Int) : Hold := ⟨g, g + 1, fun W => Bts W g c l, fun hm h => h.move (fun hlt => hm g (Nat.le_refl _) (Nat.lt_succ_self _) hlt)⟩
theorem Mem.bts {w W : World} {H : List Hold} {g c : Nat} {l : List Int} (h : Mem w W H) (hm : Hold.bts g c l ∈ H) : Bts W g c l := h.says _ hm
theorem size_cells (g : Nat) : ∀ (vs : List Value) (o : Nat) (W : World), (W.setCells g o vs).heap.size = W.heap.size
 | [], _, _ => rfl
 | v :: vs, o, W => (size_cells g vs (o + 1) _).trans (by simp)
theorem below_cells {w0 : World} {g : Nat} (hg : w0.heap.size ≤ g) : ∀ (vs : List Value) (o : Nat) (W : World), Below w0.heap.size w0 W → Below w0.heap.size w0 (W.setCells g o vs)
 | [], _, _, h => h
 | v :: vs, o, W, h => below_cells hg vs (o + 1) _ (below_set h hg)
theorem addr_at (g j : Nat) : (⟨g, 0, none⟩ : Addr).add j = ⟨g, j, none⟩ := by rw [Addr.add_lit, Nat.zero_add]
theorem Bts.reads {W : World} {g c : Nat} {l : List Int} (h : Bts W g c l) (hl : l.length ≤ 9223372036854775807) : (Kd.int .u8).C W (some ⟨g, 0, none⟩) l.length l := by
 refine Kd.C_of_reads (enc := Value.int .u8) (d := (0 : Int)) ⟨rfl, hl, fun _ => ⟨_, rfl, fun j hj => ?_⟩⟩
 rw [addr_at]
 refine h.2.2 j _ ?_
 rw [nums, List.getElem?_map, List.getElem?_eq_getElem hj, List.getD_eq_getElem?_getD, List.getElem?_eq_getElem hj]
 rfl
theorem nums_bytes (s : ByteArray) : nums .u8 (bytesOf s) = byteCells s := by
 unfold nums bytesOf byteCells
 rw [List.map_map]
 rfl
theorem Src.text {P : Program} {W : World} {tx : TypeId} (hk : P.underlying tx = some .string) (s : ByteArray) : Src P 1 tx (.string s) s.size (nums .u8 (bytesOf s)) W := by
 rw [nums_bytes]
 exact Src.ofString W hk s
theorem one_nums (l : List Int) : ∀ u ∈ nums .u8 l, u.oneCell' = true := fun u hu => by
 obtain ⟨x, _, rfl⟩ := List.mem_map.1 hu
 rfl
theorem Src.bts {P : Program} {W : World} {tx e : TypeId} (hk : P.underlying tx = some (.slice e)) {g c c2 : Nat} {l : List Int} (h : Bts W g c l) : Src P 1 tx (.slice (some ⟨g, 0, none⟩) l.length c2) l.length (nums .u8 l) W :=
 Src.ofSlice W hk ⟨g, 0, none⟩ l.length c2 _ (by rw [nums_length, Nat.mul_one]) (fun j u hu => by rw [addr_at]; exact h.2.2 j u hu) (one_nums l)
theorem Src.byte {P : Program} {W : World} {tx e t : TypeId} (hk : P.underlying tx = some (.slice e)) {g : Nat} {x : Int} (h : W.heap[g]? = some (.cells #[.int .u8 x] t (0, 0))) : Src P 1 tx (.slice (some ⟨g, 0, none⟩) 1 1) 1 (nums .u8 [x]) W :=
 Src.ofSlice W hk ⟨g, 0, none⟩ 1 1 _ (by rw [nums_length, Nat.mul_one]; rfl) (fun j u hu => by
  rw [addr_at, blk_cell h]
  cases j with
  | zero => exact hu
  | succ j => cases hu) (one_nums _)
theorem run_bts {P : Program} (W : World) (t tx ty e : TypeId) (ht : P.underlying t = some (.slice e)) (hinfo : (P.info? e).map (fun i => (i.zero, i.size, i.bytes)) = some (some (.int .u8 0), 1, 1))
  {g c : Nat} {l : List Int} (hB : Bts W g c l) (x : Value) (n : Nat) (news : List Int) (hs : Src P 1 tx x n (nums .u8 news) W) (hl : l.length + news.length ≤ 140737488355328) :
  ∃ g2 c2 W2, (Builtin.append_ #[t, tx] ty #[.slice (some ⟨g, 0, none⟩) l.length c, x]).run P W = .ok (.slice (some ⟨g2, 0, none⟩) (l ++ news).length c2) W2 ∧ Bts W2 g2 c2 (l ++ news) ∧
   (g2 = g ∨ (W.heap.size ≤ g2 ∧ g2 < W2.heap.size)) ∧ W.heap.size ≤ W2.heap.size ∧ (∀ k, k < W.heap.size → k ≠ g → W2.heap[k]? = W.heap[k]?) ∧ (∀ w0 : World, w0.heap.size ≤ g → Below w0.heap.size w0 W → Below w0.heap.size w0 W2) := by
 obtain ⟨i, hi, hzz⟩ := Option.map_eq_some_iff.1 hinfo
 simp only [Prod.mk.injEq] at hzz
 obtain ⟨hz0, hz1, hz2⟩ := hzz
 have hn : news.length = n := by have := hs.newsLen; rw [nums_length, Nat.mul_one] at this; exact this
 have hs' : Src P i.size tx x n (nums .u8 news) W := by rw [hz1]; exact hs
 obtain ⟨h1, h2, h3⟩ := hB
 have hlen : (l ++ news).length = l.length + n := by rw [List.length_append, hn]
 by_cases hroom : l.length + n ≤ c
 ·have hr := run_append_room_src W t tx ty e i ht hi g 0 l.length c x n (nums .u8 news) hs' hroom
   (fun j hj => by
    rw [nums_length] at hj
    rw [hz1, Nat.zero_add, Nat.mul_one]
    exact (h2 _ (by omega)).1) (fun j hj => by
    rw [nums_length] at hj
    rw [hz1, Nat.zero_add, Nat.mul_one]
    exact (h2 _ (by omega)).2)
  rw [hz1, Nat.zero_add, Nat.mul_one, ← hlen] at hr
  refine ⟨g, c, _, hr, ⟨by omega, fun j hj => ?_, fun j u hu => ?_⟩, .inl rfl, ?_, fun k hk hne => ?_, fun w0 hg hb => below_cells hg _ _ _ hb⟩
  ·exact ⟨World.isSome_setCells g _ _ _ _ (h2 j hj).1, (World.frozen?_setCells g _ _ _ _).trans (h2 j hj).2⟩
  ·rw [nums, List.map_append] at hu
   by_cases hj : j < l.length
   ·rw [World.cell?_setCells_out g _ _ _ _ (fun _ _ => .inl hj)]
    refine h3 j u ?_
    rwa [List.getElem?_append_left (by rw [List.length_map]; exact hj)] at hu
   ·rw [List.getElem?_append_right (by rw [List.length_map]; omega), List.length_map] at hu
    obtain ⟨hlt, hv⟩ := List.getElem?_eq_some_iff.1 hu
    have hlt2 : j - l.length < (nums .u8 news).length := hlt
    have hc := World.cell?_setCells_in g (nums .u8 news) l.length W (fun q hq => by
     rw [nums_length] at hq
     exact (h2 _ (by omega)).1) (j - l.length) hlt2
    rw [show l.length + (j - l.length) = j by omega] at hc
    rw [hc]
    exact congrArg some hv
  ·rw [size_cells]
   exact Nat.le_refl _
  ·exact World.heap_setCells_other W g _ _ hk hne
 ·have hold : (Builtin.firstCells i.size l.length (.slice (some ⟨g, 0, none⟩) l.length c)).run P W.drew = .ok (nums .u8 l).toArray W.drew := by
   rw [hz1]
   exact run_firstCells_some W.drew 1 l.length ⟨g, 0, none⟩ l.length c (nums .u8 l) (by rw [nums_length, Nat.mul_one]) (fun j u hu => by rw [addr_at]; exact h3 j u hu)
  have hr := run_append_grow_src W t tx ty e i (.int .u8 0) ht hi hz0 (some ⟨g, 0, none⟩) l.length c (nums .u8 l) hold x n (nums .u8 news) hs' (by omega) (by omega) (by
   rw [hz2, Nat.mul_one]
   exact Nat.le_trans (nextslicecap_le (by omega)) (by omega))
  have hge := grownCap_ge W (l.length + n) c e
  rw [← hlen] at hr hge
  generalize grownCap W (l ++ news).length c e = c2 at hr hge
  have hb := heap_alloc_new W.drew (.cells ((nums .u8 l ++ nums .u8 news).toArray ++ Builtin.zeroCells (Value.int .u8 0).cells (c2 - (l ++ news).length)) e)
  have hsz : ((nums .u8 l ++ nums .u8 news).toArray ++ Builtin.zeroCells (Value.int .u8 0).cells (c2 - (l ++ news).length)).size = c2 := by
   rw [Array.size_append, size_zeroCells, List.size_toArray, List.length_append, nums_length, nums_length]
   have h1 : (Value.int .u8 0).cells.size = 1 := rfl
   rw [h1]
   rw [hlen] at hge ⊢
   omega
  refine ⟨W.heap.size, c2, _, hr, ⟨hge, fun j hj => ⟨?_, blk_frozen hb j⟩, fun j u hu => ?_⟩, .inr ⟨Nat.le_refl _, by simp⟩, by simp, fun k hk hne => heap_alloc_old W.drew _ hk, fun w0 hg hb => below_alloc (below_drew1 hb) _⟩
  ·show (World.cell? _ ⟨W.drew.heap.size, j, none⟩).isSome = true
   rw [blk_cell hb j]
   rw [Array.getElem?_eq_getElem (by rw [hsz]; exact hj)]
   rfl
  ·show World.cell? _ ⟨W.drew.heap.size, j, none⟩ = _
   rw [blk_cell hb j, Array.getElem?_append_left (by
    have := (List.getElem?_eq_some_iff.1 hu).1
    rw [nums_length, List.length_append] at this
    rw [List.size_toArray, List.length_append, nums_length, nums_length]
    exact this), List.getElem?_toArray]
   rwa [nums, List.map_append] at hu
theorem Mem.bapp {w W W2 : World} {A B : List Hold} {g c g2 c2 : Nat} {l l2 : List Int} (h : Mem w W (A ++ Hold.bts g c l :: B)) (hv : Bts W2 g2 c2 l2) (hg : g2 = g ∨ (W.heap.size ≤ g2 ∧ g2 < W2.heap.size)) (hs : W.heap.size ≤ W2.heap.size)
  (hk : ∀ k, k < W.heap.size → k ≠ g → W2.heap[k]? = W.heap[k]?) (hb : ∀ w0 : World, w0.heap.size ≤ g → Below w0.heap.size w0 W → Below w0.heap.size w0 W2) : Mem w W2 (A ++ Hold.bts g2 c2 l2 :: B) := by
 have ha := h.apart
 rw [List.pairwise_append] at ha
 obtain ⟨hA, hB, hAB⟩ := ha
 rw [List.pairwise_cons] at hB
 have hf := h.fits (Hold.bts g c l) (List.mem_append_right _ List.mem_cons_self)
 have hf1 : w.heap.size ≤ g := hf.1
 have hf2 : g + 1 ≤ W.heap.size := hf.2
 have far : ∀ z : Hold, (z ∈ A ∨ z ∈ B) → z.hi ≤ g ∨ g + 1 ≤ z.lo := by
  intro z hz
  rcases hz with hz | hz
  ·exact (hAB z hz _ List.mem_cons_self).symm
  ·exact hB.1 z hz
 have key : ∀ z : Hold, (z ∈ A ∨ z ∈ B) → z.P W → z.P W2 := by
  intro z hz hp
  refine z.mv (fun k h1 h2 h3 => hk k h3 ?_) hp
  rintro rfl
  have := far z hz
  omega
 have far2 : ∀ z : Hold, (z ∈ A ∨ z ∈ B) → z.hi ≤ g2 ∨ g2 + 1 ≤ z.lo := by
  intro z hz
  rcases hg with rfl | ⟨hg, _⟩
  ·exact far z hz
  ·have hz' : z.hi ≤ W.heap.size := by
    rcases hz with hz | hz
    ·exact (h.fits z (List.mem_append_left _ hz)).2
    ·exact (h.fits z (List.mem_append_right _ (List.mem_cons_of_mem _ hz))).2
   exact .inl (by omega)
 refine ⟨hb w hf1 h.below, fun z hz => ?_, fun z hz => ?_, ?_⟩
 ·rcases List.mem_append.1 hz with hz | hz
  ·exact key z (.inl hz) (h.says z (List.mem_append_left _ hz))
  ·rcases List.mem_cons.1 hz with rfl | hz
   ·exact hv
   ·exact key z (.inr hz) (h.says z (List.mem_append_right _ (List.mem_cons_of_mem _ hz)))
 ·rcases List.mem_append.1 hz with hz | hz
  ·have := h.fits z (List.mem_append_left _ hz)
   exact ⟨this.1, Nat.le_trans this.2 hs⟩
  ·rcases List.mem_cons.1 hz with rfl | hz
   ·show w.heap.size ≤ g2 ∧ g2 + 1 ≤ W2.heap.size
    rcases hg with rfl | hg <;> omega
   ·have := h.fits z (List.mem_append_right _ (List.mem_cons_of_mem _ hz))
    exact ⟨this.1, Nat.le_trans this.2 hs⟩
 ·rw [List.pairwise_append]
  refine ⟨hA, List.pairwise_cons.2 ⟨fun z hz => far2 z (.inr hz), hB.2⟩, fun c' hc b' hb' => ?_⟩
  rcases List.mem_cons.1 hb' with rfl | hb'
  ·exact (far2 c' (.inl hc)).symm
  ·exact hAB c' hc b' (List.mem_cons_of_mem _ hb')
section
variable {P : Program} {ops : Array Oper} {rest : List Oper} {o : Oper} {a : Act} {Q : Exit → Act → World → Prop} {Kc : Act → World → Prop}
theorem wp_bts {w W : World} {A B : List Hold} {g c : Nat} {l : List Int} (M : Mem w W (A ++ Hold.bts g c l :: B)) (s x : Operand) (t tx e : TypeId)
  (ho : o.op = .call { callee := .builtin .append, args := #[s, x], argTypes := #[t, tx] })
  (ht : P.underlying t = some (.slice e)) (hinfo : (P.info? e).map (fun i => (i.zero, i.size, i.bytes)) = some (some (.int .u8 0), 1, 1))
  (v : Value) (hs : a.eval s = .slice (some ⟨g, 0, none⟩) l.length c) (hx : a.eval x = v) (n : Nat) (news : List Int) (hsrc : Src P 1 tx v n (nums .u8 news) W) (hl : l.length + news.length ≤ 140737488355328)
  (h : ∀ g2 c2 W2, Mem w W2 (A ++ Hold.bts g2 c2 (l ++ news) :: B) → Kc (a.put o.dst (.slice (some ⟨g2, 0, none⟩) (l ++ news).length c2)) W2) : Oper.wp P o a W Kc Q := by
 obtain ⟨g2, c2, W2, hr, hB, hg, hsz, hk, hb⟩ := run_bts W t tx o.type e ht hinfo (M.bts (List.mem_append_right _ List.mem_cons_self)) v n news hsrc hl
 unfold Oper.wp execOp
 simp only [ho, resolve, invoke, builtin, Sem.run_bind, Sem.run_pure, Result.andThen_ok, List.map_toArray, List.map_cons, List.map_nil, hs, hx, hr]
 exact h g2 c2 W2 (M.bapp hB hg hsz hk hb)
theorem bts_append {w W : World} {A B : List Hold} {g c : Nat} {l : List Int} (M : Mem w W (A ++ Hold.bts g c l :: B)) (hgd : o.guard = none) (s x : Operand) (t tx e : TypeId)
  (ho : o.op = .call { callee := .builtin .append, args := #[s, x], argTypes := #[t, tx] })
  (ht : P.underlying t = some (.slice e)) (hinfo : (P.info? e).map (fun i => (i.zero, i.size, i.bytes)) = some (some (.int .u8 0), 1, 1))
  (v : Value) (hs : a.eval s = .slice (some ⟨g, 0, none⟩) l.length c) (hx : a.eval x = v) (n : Nat) (news : List Int) (hsrc : Src P 1 tx v n (nums .u8 news) W) (hl : l.length + news.length ≤ 140737488355328)
  (h : ∀ g2 c2 W2, Mem w W2 (A ++ Hold.bts g2 c2 (l ++ news) :: B) → wpList P ops Q rest (a.put o.dst (.slice (some ⟨g2, 0, none⟩) (l ++ news).length c2)) W2) : wpList P ops Q (o :: rest) a W :=
 wpList_plain hgd fun _ hK => wp_bts M s x t tx e ho ht hinfo v hs hx n news hsrc hl fun g2 c2 W2 M2 => hK _ _ (h g2 c2 W2 M2)
theorem bts_append_step {w W : World} {A B : List Hold} {g c : Nat} {l : List Int} (M : Mem w W (A ++ Hold.bts g c l :: B)) (hw : Region.wanted o (yielded ops a.tmps) = true) (s x : Operand) (t tx e : TypeId)
  (ho : o.op = .call { callee := .builtin .append, args := #[s, x], argTypes := #[t, tx] })
  (ht : P.underlying t = some (.slice e)) (hinfo : (P.info? e).map (fun i => (i.zero, i.size, i.bytes)) = some (some (.int .u8 0), 1, 1))
  (v : Value) (hs : a.eval s = .slice (some ⟨g, 0, none⟩) l.length c) (hx : a.eval x = v) (n : Nat) (news : List Int) (hsrc : Src P 1 tx v n (nums .u8 news) W) (hl : l.length + news.length ≤ 140737488355328)
  (h : ∀ g2 c2 W2, Mem w W2 (A ++ Hold.bts g2 c2 (l ++ news) :: B) → Kc (a.put o.dst (.slice (some ⟨g2, 0, none⟩) (l ++ news).length c2)) W2) :
  if Region.wanted o (yielded ops a.tmps) = true then Oper.wp P o a W Kc Q else Kc (a.put o.dst undef) W := by
 rw [if_pos hw]
 exact wp_bts M s x t tx e ho ht hinfo v hs hx n news hsrc hl h
end
theorem Mem.conv {w W : World} {H : List Hold} (M : Mem w W H) (s : ByteArray) (C : Nat) (e : TypeId) (hC : s.size ≤ C) : Mem w (W.drew.alloc (.cells (bytesRow s C) e ((bytesRow s C).size, (bytesRow s C).size + 1))) (Hold.bts W.heap.size C (bytesOf s) :: H) := by
 have hb := heap_alloc_new W.drew (.cells (bytesRow s C) e ((bytesRow s C).size, (bytesRow s C).size + 1))
 have hsz : (bytesRow s C).size = C := by
  unfold bytesRow
  rw [Array.size_append, Array.size_map, Array.size_replicate]
  show s.size + (C - s.size) = C
  omega
 have h2 := M.step (below_alloc (below_drew1 (Below.refl W.heap.size W)) (.cells (bytesRow s C) e ((bytesRow s C).size, (bytesRow s C).size + 1)))
 have hcell : ∀ j, (W.drew.alloc (.cells (bytesRow s C) e ((bytesRow s C).size, (bytesRow s C).size + 1))).cell? ⟨W.drew.heap.size, j, none⟩ = (bytesRow s C)[j]? := fun j => cell_of_row _ _ j _ _ _ hb
 refine ⟨h2.below, fun x hx => ?_, fun x hx => ?_, List.Pairwise.cons (fun b hb => .inl (M.fits b hb).2) M.apart⟩
 ·rcases List.mem_cons.1 hx with rfl | hx
  ·refine ⟨by rw [bytesOf_length]; exact hC, fun j hj => ⟨?_, ?_⟩, fun j u hu => ?_⟩
   ·show (World.cell? _ ⟨W.drew.heap.size, j, none⟩).isSome = true
    rw [hcell, Array.getElem?_eq_getElem (by rw [hsz]; exact hj)]
    rfl
   ·show World.frozen? _ ⟨W.drew.heap.size, j, none⟩ = false
    have : ¬ (bytesRow s C).size ≤ j := by omega
    unfold World.frozen?
    rw [show (⟨W.drew.heap.size, j, none⟩ : Addr).block = W.drew.heap.size from rfl, hb]
    simp [this]
   ·show World.cell? _ ⟨W.drew.heap.size, j, none⟩ = _
    have hlt := (List.getElem?_eq_some_iff.1 hu).1
    rw [nums_length, bytesOf_length] at hlt
    rw [hcell]
    unfold bytesRow
    rw [Array.getElem?_append_left (by rw [Array.size_map]; exact hlt)]
    rw [nums_bytes] at hu
    rw [← hu]
    unfold byteCells
    simp
  ·exact h2.says x hx
 ·rcases List.mem_cons.1 hx with rfl | hx
  ·exact ⟨M.below.size, by simp [Hold.bts]⟩
  ·exact h2.fits x hx
theorem Mem.convC {w W : World} {H : List Hold} (M : Mem w W H) (l : List Int) (e : TypeId) : Mem w (W.alloc (.cells (nums .u8 l).toArray e ((nums .u8 l).toArray.size, (nums .u8 l).toArray.size + 1))) (Hold.bts W.heap.size l.length l :: H) := by
 have hb := heap_alloc_new W (.cells (nums .u8 l).toArray e ((nums .u8 l).toArray.size, (nums .u8 l).toArray.size + 1))
 have h2 := M.step (below_alloc (Below.refl W.heap.size W) (.cells (nums .u8 l).toArray e ((nums .u8 l).toArray.size, (nums .u8 l).toArray.size + 1)))
 have hcell : ∀ j, (W.alloc (.cells (nums .u8 l).toArray e ((nums .u8 l).toArray.size, (nums .u8 l).toArray.size + 1))).cell? ⟨W.heap.size, j, none⟩ = (nums .u8 l).toArray[j]? := fun j => cell_of_row _ _ j _ _ _ hb
 have hsz : (nums .u8 l).toArray.size = l.length := by rw [List.size_toArray, nums_length]
 refine ⟨h2.below, fun x hx => ?_, fun x hx => ?_, List.Pairwise.cons (fun b hb => .inl (M.fits b hb).2) M.apart⟩
 ·rcases List.mem_cons.1 hx with rfl | hx
  ·refine ⟨Nat.le_refl _, fun j hj => ⟨?_, ?_⟩, fun j u hu => ?_⟩
   ·rw [hcell, Array.getElem?_eq_getElem (by rw [hsz]; exact hj)]
    rfl
   ·have : ¬ (nums .u8 l).toArray.size ≤ j := by omega
    simp only [World.frozen?, hb]
    simp
    intro h
    rw [nums_length] at h
    omega
   ·rw [hcell, List.getElem?_toArray]
    exact hu
  ·exact h2.says x hx
 ·rcases List.mem_cons.1 hx with rfl | hx
  ·exact ⟨M.below.size, by simp [Hold.bts]⟩
  ·exact h2.fits x hx
end Go.Proofs.Ytcbaokflimdjnaa.Law
end
section
namespace Go.Proofs.Ytcbaokflimdjnaa.Num
open Go.RowKit
theorem wrap64_id {n : Int} (h0 : -9223372036854775808 ≤ n) (h1 : n ≤ 9223372036854775807) : wrap64 n = n := by unfold wrap64; omega
theorem u64_id {n : Int} (h0 : 0 ≤ n) (h1 : n < 18446744073709551616) : IntKind.u64.wrap n = n := by rw [IntKind.wrap_u64]; omega
theorem tdiv_pos {a b : Int} (h : 0 ≤ a) : Int.tdiv a b = a / b := Int.tdiv_eq_ediv_of_nonneg h
theorem tmod_pos {a b : Int} (h : 0 ≤ a) : Int.tmod a b = a % b := Int.tmod_eq_emod_of_nonneg h
theorem and_mask (i m : Nat) (hm : m = 2 ^ i - 1) (hi : m < 18446744073709551616) {a : Int} (h0 : 0 ≤ a) (h1 : a < 18446744073709551616) : Go.bits .and .u64 a (m : Int) = a % ((2 ^ i : Nat) : Int) := by
 rw [u64_and a (m : Int) h0 h1 (by omega) (by omega)]
 rw [show ((m : Int)).toNat = 2 ^ i - 1 by omega, Nat.and_two_pow_sub_one_eq_mod]
 rw [Int.natCast_emod]
 congr 1
 omega
theorem and_63 {a : Int} (h0 : 0 ≤ a) (h1 : a < 18446744073709551616) : Go.bits .and .u64 a 9223372036854775807 = a % 9223372036854775808 := and_mask 63 9223372036854775807 (by decide) (by decide) h0 h1
def PN (x : Int) : Int × Bool × Int × Int :=
 if x / 4503599627370496 % 2048 = 2047 then (if x % 4503599627370496 = 0 then (2, (x / 9223372036854775808) == 1, 0, 0) else (1, false, 0, 0))
 else if x / 4503599627370496 % 2048 = 0 then (if x % 4503599627370496 = 0 then (3, (x / 9223372036854775808) == 1, 0, 0) else (4, (x / 9223372036854775808) == 1, x % 4503599627370496, -1074))
 else (4, (x / 9223372036854775808) == 1, x % 4503599627370496 + 4503599627370496, x / 4503599627370496 % 2048 - 1075)
def isNan (x : Int) : Bool := decide (x % 9223372036854775808 > 9218868437227405312)
theorem PN_nan {x : Int} (h0 : 0 ≤ x) : ((PN x).1 == 1) = isNan x := by
 unfold PN isNan
 by_cases h1 : x / 4503599627370496 % 2048 = 2047
 ·by_cases h2 : x % 4503599627370496 = 0
  ·rw [if_pos h1, if_pos h2]
   have : ¬ (x % 9223372036854775808 > 9218868437227405312) := by omega
   simp [this]
  ·rw [if_pos h1, if_neg h2]
   have : x % 9223372036854775808 > 9218868437227405312 := by omega
   simp [this]
 ·rw [if_neg h1]
  have : ¬ (x % 9223372036854775808 > 9218868437227405312) := by omega
  by_cases h2 : x / 4503599627370496 % 2048 = 0
  ·by_cases h3 : x % 4503599627370496 = 0 <;> simp [h2, h3, this]
  ·simp [h2, this]
end Go.Proofs.Ytcbaokflimdjnaa.Num
end
