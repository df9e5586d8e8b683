/- Contracts of the laws' own functions, by program: they write over a row of whole numbers, and tell whether it was left as written. No condition beyond what the arguments read as. -/
import Derived.Test.YtdgjbpefbkgnpaaKinds
import Derived.Test.YtdgjbpefbkgnpaaLaw
import Derived.Test.YtdgjbpefbkgnpaaNum
import Derived.WalkKit
import Derived.KernelRfl
import Derived.Deep.LoopGhost
import Derived.Deep.QuietTactic
import Derived.BigQuiet
import Derived.RowKit3
import Derived.Deep.RegionWith
import Derived.Deep.RegionHeld3
import Derived.WalkLawsBesides
import Derived.Test.YtdgjbpefbkgnpaaMem
import Derived.Test.YtdgjbpefbkgnpaaToA
namespace Go.Proofs.Ytdgjbpefbkgnpaa
open Go.RowKit Go.Proofs.YtdgjbpefbkgnpaaW.PrintWords Go.Proofs.YtdgjbpefbkgnpaaW.PrintMore Go.Proofs.Ytdgjbpefbkgnpaa.Law Go.Proofs.Ytdgjbpefbkgnpaa.Num
set_option linter.unusedVariables false
set_option linter.unusedSimpArgs false
set_option autoImplicit false
/-- k, k + 1, .. : n of them. -/
def marks (k : Int) (n : Nat) : List Int := (List.range n).map (fun (i : Nat) => k + (i : Int))
theorem marks_len (k : Int) (n : Nat) : (marks k n).length = n := by simp [marks]
theorem el_marks (k : Int) {n j : Nat} (h : j < n) : el 0 (marks k n) j = k + j := by simp [el, marks, h]
set_option maxHeartbeats 4000000 in
set_option maxRecDepth 100000 in
theorem markIntS (v1 : Value) (l : List Int) (k : Int) (w0 w : World) (lo : Nat) (ok : Nat → Prop) (hB : Below w0.heap.size w0 w) (hlo : w0.heap.size ≤ lo) (hr : (Kd.int .i64).R 3 w lo ok v1 l) (h0 : 0 ≤ k) (h1 : k + l.length ≤ 4611686018427387904) :
    Calls Try.prog 76 #[v1, .int .i64 k] w fun e w' => e = .returned (.int .i64 (k + l.length)) ∧ (Kd.int .i64).R 3 w' lo ok v1 (marks k l.length) ∧ Below w0.heap.size w0 w' ∧ Kept w w' ok := by
  have HB := Aside0.mk hB
  have HO := Aside0.mk hr
  have HK := Aside0.mk (Kept.refl w ok)
  have HOK := Aside0.mk hr.1
  obtain ⟨A, c, rfl⟩ := Kd.R_slice hr
  clear hB hr
  go_enter Try.func76, Try.ntmps76
  go_wp2
  go_loopw [1, 5] (fun u v wr => ∃ (j : Nat) (xs : List Int), u = .int .i64 (k + j) ∧ v = .int .i64 j ∧ j ≤ l.length ∧ xs.length = l.length ∧ Aside0 (∀ i : Nat, i < j → el 0 xs i = el 0 (marks k l.length) i) ∧ Aside0 ((Kd.int .i64).R 3 wr lo ok (.slice A l.length c) xs) ∧ Aside0 (Below w0.heap.size w0 wr) ∧ Aside0 (Kept w wr ok)) (fun u v _ => l.length - (intOf v).toNat)
  case atStart => exact ⟨0, _, by simp, rfl, by omega, rfl, ⟨fun i hi => by omega⟩, HO, HB, HK⟩
  case round =>
    clear HO HB HK
    obtain ⟨j, xs, rfl, rfl, hj, hn, HE, HO, HB, HK⟩ := hrel
    by_cases hlt : j < l.length
    · obtain ⟨go, co, hv, gb, gl, cl, HG⟩ := Kd.R_form HO.out (by omega)
      rw [hn] at hv
      have hg : ok go := HOK.out go (by rw [hv]; simp [Value.ownBlock])
      injection hv with hA _ hc
      subst hA; subst hc
      obtain ⟨hx0, hf0⟩ := Kd.R_celln 0 HO.out (j : Int) (by omega) (by omega)
      rw [Int.toNat_natCast] at hx0 hf0
      have HP := Aside0.mk (Kd.R_putg HO.out (j : Int) (k + j)).1
      have GB := Aside0.mk gb
      have GK := Aside0.mk hg
      have hb2 : (j : Int) < (l.length : Int) := by omega
      clear gb gl HG hg
      go_wp2
      go_roundw
      case measure => simp [intOf]; omega
      case rel => exact ⟨j + 1, _, by go_num, by go_num, by omega, by simpa using hn, ⟨fun i hi => by rcases Nat.lt_succ_iff_lt_or_eq.1 hi with h | h; (rw [el_set_ne (by omega)]; exact HE.out i h); subst h; rw [el_marks k hlt]; exact el_set_eq (by omega)⟩, HP, ⟨below_set HB.out (Nat.le_trans hlo GB.out)⟩, ⟨Kept.setCell HK.out (.inl GK.out) _⟩⟩
    · have hb2 : ¬ (j : Int) < (l.length : Int) := by omega
      have hj2 : j = l.length := by omega
      have he : xs = marks k l.length := el_ext 0 (by rw [hn, marks_len]) (fun i hi => HE.out i (by omega))
      subst he
      subst hj2
      go_wp2
      go_ret
      exact ⟨rfl, HO.out, HB.out, HK.out⟩
set_option maxHeartbeats 4000000 in
set_option maxRecDepth 100000 in
theorem heldIntS (A : Option Addr) (c n : Nat) (l : List Int) (k : Int) (w : World) (hr : (Kd.int .i64).C w A l.length l) (hl : l = marks k n) (h0 : 0 ≤ k) (h1 : k + l.length ≤ 4611686018427387904) :
    Calls Try.prog 77 #[.slice A l.length c, .int .i64 k] w fun e w' => e = .returned (.int .i64 (k + l.length)) ∧ Below w.heap.size w w' := by
  have HR := Aside0.mk hr; clear hr
  have hn : l.length = n := by rw [hl, marks_len]
  have HL := Aside0.mk hl
  clear hl
  have HB := Aside0.mk (Below.refl w.heap.size w)
  go_enter Try.func77, Try.ntmps77
  go_wp2
  go_loopw [1, 5] (fun u v wr => ∃ (j : Nat), u = .int .i64 (k + j) ∧ v = .int .i64 j ∧ j ≤ l.length ∧ Aside0 (Below w.heap.size w wr)) (fun u v _ => l.length - (intOf v).toNat)
  case atStart => exact ⟨0, by simp, rfl, by omega, HB⟩
  case round =>
    clear HB
    obtain ⟨j, rfl, rfl, hj, HB⟩ := hrel
    by_cases hlt : j < l.length
    · obtain ⟨a, rfl, ha⟩ := int_at HR.out j hlt
      have hxa := (HB.out.cell (World.block_lt_of_cell? w _ ha)).trans ha
      have he : el 0 l j = k + j := by rw [HL.out]; exact el_marks k (by omega)
      rw [he] at hxa
      have hq : (k + (j : Int) != k + (j : Int)) = false := by simp
      have hb2 : (j : Int) < (l.length : Int) := by omega
      clear ha he
      go_wp2
      go_roundw
      case measure => simp [intOf]; omega
      case rel => exact ⟨j + 1, by go_num, by go_num, by omega, HB⟩
    · have hb2 : ¬ (j : Int) < (l.length : Int) := by omega
      have hj2 : j = l.length := by omega
      subst hj2
      go_wp2
      go_ret
      exact ⟨rfl, HB.out⟩
end Go.Proofs.Ytdgjbpefbkgnpaa
