/- General lemmas for the walk of a law: the boxes that it has made, and what it was handed, behind each call. No condition of its own. -/
import Derived.Test.YtkgdjhhokbbheaaDoorWWords
import Derived.Test.YtkgdjhhokbbheaaDoorWMore
namespace Go.Proofs.YtkgdjhhokbbheaaDoor.Law
open Go.RowKit Go.Proofs.YtkgdjhhokbbheaaDoorW.PrintWords Go.Proofs.YtkgdjhhokbbheaaDoorW.PrintMore
set_option linter.unusedVariables false

theorem bytes_ext {a b : ByteArray} (h : a.toList = b.toList) : a = b := by
  have e : ∀ x : ByteArray, x.toList = x.data.toList := fun x => ByteArray.toList_eq x
  rw [e, e] at h
  cases a
  cases b
  congr
  exact Array.ext' h
/-- A kind's reading, behind a draw. -/
theorem Kd.K_drew0 {α : Type} {d : Kd α} {w : World} {x : α} {cs : List Value} (h : d.K w x cs) : d.K w.drew x cs := d.K_below (below_drew1 (Below.refl _ _)) h
/-- From w on only new memory was written; the boxes of the list hold what it says. -/
structure At (w W : World) (L : List (Nat × Array Value × TypeId)) : Prop where
  below : Below w.heap.size w W
  box : ∀ b ∈ L, W.heap[b.1]? = some (.cells b.2.1 b.2.2 (0, 0))
theorem At.step {w W W2 : World} {L : List (Nat × Array Value × TypeId)} (h : At w W L) (hb : Below W.heap.size W W2) : At w W2 L := ⟨below_step h.below hb, fun b hm => blk_below (h.box b hm) hb⟩
theorem At.draw {w W : World} {L : List (Nat × Array Value × TypeId)} (h : At w W L) (n : Nat) : At w (W.drewN n) L := ⟨pw_below_drewN h.below n, fun b hm => h.box b hm⟩
theorem At.drew {w W : World} {L : List (Nat × Array Value × TypeId)} (h : At w W L) : At w W.drew L := ⟨below_drew1 h.below, fun b hm => h.box b hm⟩
theorem At.start (w : World) : At w w [] := ⟨Below.refl _ _, fun b hm => by cases hm⟩
theorem At.alloc {w W : World} {L : List (Nat × Array Value × TypeId)} (h : At w W L) (cs : Array Value) (t : TypeId) : At w (W.alloc (.cells cs t)) ((W.heap.size, cs, t) :: L) := by
  refine ⟨below_alloc h.below _, fun b hm => ?_⟩
  rcases List.mem_cons.1 hm with rfl | hm
  · exact blk_new W _
  · exact blk_alloc (h.box b hm) _
theorem At.cell {w W : World} {L : List (Nat × Array Value × TypeId)} (h : At w W L) {g : Nat} {cs : Array Value} {t : TypeId} (hm : (g, cs, t) ∈ L) : ∀ o, W.cell? ⟨g, o, none⟩ = cs[o]? := fun o => blk_cell (h.box _ hm) o
theorem At.cell0 {w W : World} {L : List (Nat × Array Value × TypeId)} {g : Nat} {cs : Array Value} {t : TypeId} (h : At w W ((g, cs, t) :: L)) : ∀ o, W.cell? ⟨g, o, none⟩ = cs[o]? := h.cell (t := t) (by simp)
theorem At.cell1 {w W : World} {L : List (Nat × Array Value × TypeId)} {b0 : Nat × Array Value × TypeId} {g : Nat} {cs : Array Value} {t : TypeId} (h : At w W (b0 :: (g, cs, t) :: L)) : ∀ o, W.cell? ⟨g, o, none⟩ = cs[o]? := h.cell (t := t) (by simp)
theorem At.cell2 {w W : World} {L : List (Nat × Array Value × TypeId)} {b0 b1 : Nat × Array Value × TypeId} {g : Nat} {cs : Array Value} {t : TypeId} (h : At w W (b0 :: b1 :: (g, cs, t) :: L)) : ∀ o, W.cell? ⟨g, o, none⟩ = cs[o]? := h.cell (t := t) (by simp)
theorem At.cell3 {w W : World} {L : List (Nat × Array Value × TypeId)} {b0 b1 b2 : Nat × Array Value × TypeId} {g : Nat} {cs : Array Value} {t : TypeId} (h : At w W (b0 :: b1 :: b2 :: (g, cs, t) :: L)) : ∀ o, W.cell? ⟨g, o, none⟩ = cs[o]? := h.cell (t := t) (by simp)
theorem At.free {w W : World} {L : List (Nat × Array Value × TypeId)} (h : At w W L) {g : Nat} {cs : Array Value} {t : TypeId} (hm : (g, cs, t) ∈ L) : ∀ o, W.frozen? ⟨g, o, none⟩ = false := fun o => blk_frozen (h.box _ hm) o
theorem At.reads {α : Type} {d : Kd α} {w W : World} {L : List (Nat × Array Value × TypeId)} {A : Option Addr} {n : Nat} {xs : List α} (h : At w W L) (hr : d.C w A n xs) : d.C W A n xs := Kd.C_below hr h.below
theorem At.mono {w W : World} {L L' : List (Nat × Array Value × TypeId)} (h : At w W L) (hs : ∀ b ∈ L', b ∈ L) : At w W L' := ⟨h.below, fun b hm => h.box b (hs b hm)⟩
end Go.Proofs.YtkgdjhhokbbheaaDoor.Law
