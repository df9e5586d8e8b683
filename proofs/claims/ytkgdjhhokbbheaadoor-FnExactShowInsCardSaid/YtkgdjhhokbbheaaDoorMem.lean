/- What a walk holds: boxes and values of its own, newest first, each in blocks of its own; moved over calls, draws, boxes and marks by one lemma each. No condition of its own. -/
import Derived.Test.YtkgdjhhokbbheaaDoorLaw
import Derived.Test.YtkgdjhhokbbheaaDoorWKept
namespace Go.Proofs.YtkgdjhhokbbheaaDoor.Law
open Go.RowKit Go.Proofs.YtkgdjhhokbbheaaDoorW.PrintWords Go.Proofs.YtkgdjhhokbbheaaDoorW.PrintMore
set_option linter.unusedVariables false

/-- A holding: the blocks lo .. hi, and what the world says of them. -/
structure Hold where
  lo : Nat
  hi : Nat
  P : World → Prop
  mv : ∀ {W W2 : World}, (∀ k, lo ≤ k → k < hi → k < W.heap.size → W2.heap[k]? = W.heap[k]?) → P W → P W2
def Hold.box (g : Nat) (cs : Array Value) (t : TypeId) : Hold := ⟨g, g + 1, fun W => W.heap[g]? = some (.cells cs t (0, 0)), fun hm h => (hm g (Nat.le_refl _) (Nat.lt_succ_self _) (blk_lt h)).trans h⟩
def Hold.val {α : Type} (d : Kd α) (lo hi : Nat) (x : α) (cs : List Value) : Hold := ⟨lo, hi, fun W => d.M W lo (fun k => lo ≤ k ∧ k < hi) x cs, fun hm h => Kd.M_step h (fun k hk hlt => hm k hk.1 hk.2 hlt)⟩
structure Mem (w W : World) (H : List Hold) : Prop where
  below : Below w.heap.size w W
  says : ∀ h ∈ H, h.P W
  fits : ∀ h ∈ H, w.heap.size ≤ h.lo ∧ h.hi ≤ W.heap.size
  apart : H.Pairwise (fun a b => b.hi ≤ a.lo ∨ a.hi ≤ b.lo)
theorem Mem.hide {w W : World} {H : List Hold} (h : Aside0 (Mem w W H)) : ∃ L, Aside0 (L = H) ∧ Aside0 (Mem w W L) := ⟨H, ⟨rfl⟩, h⟩
theorem Mem.start (w : World) : Mem w w [] := ⟨Below.refl _ _, fun _ h => absurd h List.not_mem_nil, fun _ h => absurd h List.not_mem_nil, List.Pairwise.nil⟩
theorem Mem.step {w W W2 : World} {H : List Hold} (h : Mem w W H) (hb : Below W.heap.size W W2) : Mem w W2 H :=
  ⟨below_step h.below hb, fun x hx => x.mv (fun k _ _ hlt => hb.block k hlt) (h.says x hx), fun x hx => ⟨(h.fits x hx).1, Nat.le_trans (h.fits x hx).2 hb.size⟩, h.apart⟩
theorem Mem.drew {w W : World} {H : List Hold} (h : Mem w W H) : Mem w W.drew H := h.step (below_drew1 (Below.refl _ _))
theorem Mem.draw {w W : World} {H : List Hold} (h : Mem w W H) (n : Nat) : Mem w (W.drewN n) H := h.step (pw_below_drewN (Below.refl _ _) n)
theorem Mem.alloc {w W : World} {H : List Hold} (h : Mem w W H) (cs : Array Value) (t : TypeId) : Mem w (W.alloc (.cells cs t)) (Hold.box W.heap.size cs t :: H) := by
  have h2 := h.step (below_alloc (Below.refl W.heap.size W) (.cells cs t))
  refine ⟨h2.below, fun x hx => ?_, fun x hx => ?_, List.Pairwise.cons (fun b hb => .inl (h.fits b hb).2) h.apart⟩
  · rcases List.mem_cons.1 hx with rfl | hx
    · exact blk_new W _
    · exact h2.says x hx
  · rcases List.mem_cons.1 hx with rfl | hx
    · exact ⟨h.below.size, by simp [Hold.box]⟩
    · exact h2.fits x hx
theorem Mem.push {α : Type} {d : Kd α} {w W W2 : World} {H : List Hold} {x : α} {cs : List Value} (h : Mem w W H) (hb : Below W.heap.size W W2) (hm : d.M W2 W.heap.size (fun _ => True) x cs) : Mem w W2 (Hold.val d W.heap.size W2.heap.size x cs :: H) := by
  have h2 := h.step hb
  refine ⟨h2.below, fun y hy => ?_, fun y hy => ?_, List.Pairwise.cons (fun b hb => .inl (h.fits b hb).2) h.apart⟩
  · rcases List.mem_cons.1 hy with rfl | hy
    · exact d.M_mono (fun k hk => ⟨hk.2.1, hk.2.2.1⟩) (d.M_bound hm)
    · exact h2.says y hy
  · rcases List.mem_cons.1 hy with rfl | hy
    · exact ⟨h.below.size, Nat.le_refl _⟩
    · exact h2.fits y hy
theorem Mem.box {w W : World} {H : List Hold} {g : Nat} {cs : Array Value} {t : TypeId} (h : Mem w W H) (hm : Hold.box g cs t ∈ H) : ∀ o, W.cell? ⟨g, o, none⟩ = cs[o]? := fun o => blk_cell (h.says _ hm) o
theorem Mem.val {α : Type} {d : Kd α} {w W : World} {H : List Hold} {lo hi : Nat} {x : α} {cs : List Value} (h : Mem w W H) (hm : Hold.val d lo hi x cs ∈ H) : d.M W lo (fun k => lo ≤ k ∧ k < hi) x cs := h.says _ hm
theorem Mem.read {α : Type} {d : Kd α} {w W : World} {H : List Hold} {lo hi : Nat} {x : α} {cs : List Value} (h : Mem w W H) (hm : Hold.val d lo hi x cs ∈ H) : d.K W x cs := d.K_of_M (h.val hm)
theorem Mem.old {α : Type} {d : Kd α} {w W : World} {H : List Hold} {x : α} {cs : List Value} (h : Mem w W H) (hk : d.K w x cs) : d.K W x cs := d.K_below h.below hk
theorem Mem.drop {w W : World} {h0 : Hold} {H : List Hold} (h : Mem w W (h0 :: H)) : Mem w W H := ⟨h.below, fun x hx => h.says x (.tail _ hx), fun x hx => h.fits x (.tail _ hx), (List.pairwise_cons.1 h.apart).2⟩
theorem Mem.allocAt {w W : World} {H : List Hold} (h : Mem w W H) {g : Nat} (hg : g = W.heap.size) (cs : Array Value) (t : TypeId) : Mem w (W.alloc (.cells cs t)) (Hold.box g cs t :: H) := hg ▸ h.alloc cs t
theorem Mem.pushR {α : Type} {d : Kd α} {e : Nat} {w W W2 : World} {H : List Hold} {l : List α} {v : Value} (h : Mem w W H) (hb : Below W.heap.size W W2) (hr : d.R e W2 W.heap.size (fun _ => True) v l) : Mem w W2 (Hold.val (Kd.slice e d) W.heap.size W2.heap.size l [v] :: H) := h.push hb ⟨v, rfl, hr⟩
theorem Mem.row {α : Type} {d : Kd α} {e : Nat} {w W : World} {H : List Hold} {lo hi : Nat} {l : List α} {v : Value} (h : Mem w W H) (hm : Hold.val (Kd.slice e d) lo hi l [v] ∈ H) : d.R e W lo (fun k => lo ≤ k ∧ k < hi) v l := by
  obtain ⟨v2, he, hr⟩ := h.val hm
  cases he
  exact hr
theorem Mem.rowT {α : Type} {d : Kd α} {e : Nat} {w W : World} {H : List Hold} {lo hi : Nat} {l : List α} {v : Value} (h : Mem w W H) (hm : Hold.val (Kd.slice e d) lo hi l [v] ∈ H) : d.R e W w.heap.size (fun _ => True) v l := Kd.R_mono (Kd.R_lower (h.row hm) (h.fits _ hm).1) (fun _ _ => trivial)
theorem Mem.free {w W : World} {H : List Hold} {g : Nat} {cs : Array Value} {t : TypeId} (h : Mem w W H) (hm : Hold.box g cs t ∈ H) : ∀ o, W.frozen? ⟨g, o, none⟩ = false := fun o => blk_frozen (h.says _ hm) o
theorem Mem.blk {w W : World} {H : List Hold} {g : Nat} {cs : Array Value} {t : TypeId} (h : Mem w W H) (hm : Hold.box g cs t ∈ H) : W.heap[g]? = some (.cells cs t (0, 0)) := h.says _ hm
theorem Mem.del1 {w W : World} {a b : Hold} {H : List Hold} (h : Mem w W (a :: b :: H)) : Mem w W (a :: H) := by
  have hs : (a :: H).Sublist (a :: b :: H) := (List.sublist_cons_self b H).cons_cons a
  exact ⟨h.below, fun x hx => h.says x (hs.mem hx), fun x hx => h.fits x (hs.mem hx), h.apart.sublist hs⟩
theorem Mem.mid {w W : World} {A B : List Hold} {b : Hold} (h : Mem w W (A ++ b :: B)) : Mem w W (A ++ B) := by
  have hs : (A ++ B).Sublist (A ++ b :: B) := (List.Sublist.refl A).append (List.sublist_cons_self b B)
  exact ⟨h.below, fun x hx => h.says x (hs.mem hx), fun x hx => h.fits x (hs.mem hx), h.apart.sublist hs⟩
theorem Mem.swap2 {w W : World} {a b : Hold} {H : List Hold} (h : Mem w W (a :: b :: H)) : Mem w W (b :: a :: H) := by
  have hp := h.apart
  rw [List.pairwise_cons, List.pairwise_cons] at hp
  refine ⟨h.below, fun x hx => h.says x ((List.Perm.swap a b H).mem_iff.1 hx), fun x hx => h.fits x ((List.Perm.swap a b H).mem_iff.1 hx), ?_⟩
  rw [List.pairwise_cons, List.pairwise_cons]
  refine ⟨fun z hz => ?_, fun z hz => hp.1 z (.tail _ hz), hp.2.2⟩
  rcases List.mem_cons.1 hz with rfl | hz
  · exact (hp.1 b (.head _)).symm
  · exact hp.2.1 z hz
/-- One holding's blocks alone are written. -/
theorem Mem.swap {w W W2 : World} {A B : List Hold} {a b : Hold} (h : Mem w W (A ++ a :: B)) (hl : b.lo = a.lo) (hh : b.hi = a.hi) (hb : Below w.heap.size w W2) (hk : Kept W W2 (fun k => a.lo ≤ k ∧ k < a.hi)) (hv : b.P W2) : Mem w W2 (A ++ b :: B) := by
  have ha := h.apart
  rw [List.pairwise_append] at ha
  obtain ⟨hA, hB, hAB⟩ := ha
  rw [List.pairwise_cons] at hB
  have key : ∀ z : Hold, (z ∈ A ∨ z ∈ B) → z.P W → z.P W2 := by
    intro z hz hp
    refine z.mv (fun k h1 h2 h3 => hk.2 k h3 ?_) hp
    rintro ⟨h4, h5⟩
    rcases hz with hz | hz
    · have := hAB z hz a List.mem_cons_self
      omega
    · have := hB.1 z hz
      omega
  refine ⟨hb, fun z hz => ?_, fun z hz => ?_, ?_⟩
  · rcases List.mem_append.1 hz with hz | hz
    · exact key z (.inl hz) (h.says z (List.mem_append_left _ hz))
    · rcases List.mem_cons.1 hz with rfl | hz
      · exact hv
      · exact key z (.inr hz) (h.says z (List.mem_append_right _ (List.mem_cons_of_mem _ hz)))
  · have hs := hk.1
    rcases List.mem_append.1 hz with hz | hz
    · have := h.fits z (List.mem_append_left _ hz)
      exact ⟨this.1, Nat.le_trans this.2 hs⟩
    · rcases List.mem_cons.1 hz with rfl | hz
      · have := h.fits a (List.mem_append_right _ List.mem_cons_self)
        rw [hl, hh]
        exact ⟨this.1, Nat.le_trans this.2 hs⟩
      · have := h.fits z (List.mem_append_right _ (List.mem_cons_of_mem _ hz))
        exact ⟨this.1, Nat.le_trans this.2 hs⟩
  · rw [List.pairwise_append]
    refine ⟨hA, List.pairwise_cons.2 ⟨fun z hz => by rw [hl, hh]; exact hB.1 z hz, hB.2⟩, fun c hc b' hb' => ?_⟩
    rcases List.mem_cons.1 hb' with rfl | hb'
    · rw [hh, hl]
      exact hAB c hc a List.mem_cons_self
    · exact hAB c hc b' (List.mem_cons_of_mem _ hb')
/-- A box's cell is written. -/
theorem Mem.set {w W : World} {A B : List Hold} {g : Nat} {cs : Array Value} {t : TypeId} (h : Mem w W (A ++ Hold.box g cs t :: B)) (j : Nat) (u : Value) {cs' : Array Value} (e : cs.setIfInBounds j u = cs') : Mem w (W.setCell ⟨g, j, none⟩ u) (A ++ Hold.box g cs' t :: B) := by
  have hm : Hold.box g cs t ∈ A ++ Hold.box g cs t :: B := List.mem_append_right _ List.mem_cons_self
  refine Mem.swap (a := Hold.box g cs t) (b := Hold.box g cs' t) h rfl rfl (below_set h.below (h.fits _ hm).1) ?_ (blk_put (h.says _ hm) j u e)
  exact Kept.setCell (Kept.refl _ _) (.inl ⟨Nat.le_refl _, Nat.lt_succ_self _⟩) u
/-- The i-th holding, a value, is written over; all else stays. -/
theorem Mem.mark {α : Type} {d : Kd α} {w W W2 : World} {A B : List Hold} {lo hi : Nat} {x y : α} {cs : List Value} (h : Mem w W (A ++ Hold.val d lo hi x cs :: B)) (hb : Below w.heap.size w W2) (hk : Kept W W2 (fun k => lo ≤ k ∧ k < hi)) (hv : d.M W2 lo (fun k => lo ≤ k ∧ k < hi) y cs) : Mem w W2 (A ++ Hold.val d lo hi y cs :: B) :=
  Mem.swap (a := Hold.val d lo hi x cs) (b := Hold.val d lo hi y cs) h rfl rfl hb hk hv
end Go.Proofs.YtkgdjhhokbbheaaDoor.Law
