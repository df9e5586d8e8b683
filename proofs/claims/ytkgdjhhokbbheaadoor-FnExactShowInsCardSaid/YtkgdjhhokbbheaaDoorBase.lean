/- General lemmas: what a row's cells hold, place by place. No condition of its own. -/
import Derived.Test.YtkgdjhhokbbheaaDoorWWords
import Derived.Test.YtkgdjhhokbbheaaDoorWMore
namespace Go.Proofs.YtkgdjhhokbbheaaDoor
open Go.RowKit Go.Proofs.YtkgdjhhokbbheaaDoorW.PrintWords Go.Proofs.YtkgdjhhokbbheaaDoorW.PrintMore
set_option linter.unusedVariables false
theorem kd_at {α : Type} {d : Kd α} {w : World} {A : Option Addr} {l : List α} (z : α) (h : d.C w A l.length l) (j : Nat) (hj : j < l.length) : ∃ a c, A = some a ∧ d.K w (l.getD j z) c ∧ ∀ i u, c[i]? = some u → w.cell? (a.add (j * d.sz + i)) = some u := by
  obtain ⟨a, c, e, _, hK, hc⟩ := Kd.C_get h z (j : Int) (by omega) (by omega)
  exact ⟨a, c, e, by simpa using hK, by simpa using hc⟩
theorem rd_ext {l m : List Int} (hl : l.length = m.length) (h : ∀ i : Nat, i < l.length → rd l i = rd m i) : l = m := by
  apply List.ext_getElem hl
  intro i h1 h2
  have := h i h1
  simpa [rd, List.getD_eq_getElem?_getD, List.getElem?_eq_getElem h1, List.getElem?_eq_getElem h2] using this
/-- The element at a place, a given one beyond. -/
def el {α : Type} (z : α) (l : List α) (j : Nat) : α := l.getD j z
theorem el_lt {α : Type} (z : α) {l : List α} {j : Nat} (h : j < l.length) : el z l j = l[j] := by simp [el, h]
theorem el_mem {α : Type} (z : α) {l : List α} {j : Nat} (h : j < l.length) : el z l j ∈ l := by rw [el_lt z h]; exact List.getElem_mem h
theorem el_ext {α : Type} (z : α) {l m : List α} (hl : l.length = m.length) (h : ∀ i : Nat, i < l.length → el z l i = el z m i) : l = m := by
  apply List.ext_getElem hl
  intro i h1 h2
  have := h i h1
  rwa [el_lt z h1, el_lt z h2] at this
theorem rd_el (l : List Int) (j : Nat) : rd l (j : Int) = el 0 l j := by simp [rd, el]
theorem int_at {w : World} {k : IntKind} {A : Option Addr} {l : List Int} (h : (Kd.int k).C w A l.length l) (j : Nat) (hj : j < l.length) : ∃ a, A = some a ∧ w.cell? (a.add j) = some (.int k (el 0 l j)) := by
  obtain ⟨a, e, hc⟩ := Kd.at_int h (j : Int) (by omega) (by omega)
  exact ⟨a, e, by rw [← rd_el]; simpa using hc⟩
theorem string_at {w : World} {A : Option Addr} {l : List ByteArray} (h : Kd.string.C w A l.length l) (j : Nat) (hj : j < l.length) : ∃ a, A = some a ∧ w.cell? (a.add j) = some (.string (el ByteArray.empty l j)) := by
  obtain ⟨a, c, e, hK, hc⟩ := kd_at ByteArray.empty h j hj
  have hc' : c = [.string (el ByteArray.empty l j)] := hK
  subst hc'
  exact ⟨a, e, by simpa [Kd.string, Kd.scalar] using hc 0 _ rfl⟩
end Go.Proofs.YtkgdjhhokbbheaaDoor
