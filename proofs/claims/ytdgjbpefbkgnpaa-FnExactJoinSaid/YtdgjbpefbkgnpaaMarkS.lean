/- Contracts of the laws' own functions, by program: a state is written over; it is asked whether it was left as written. No condition beyond what the arguments read as. -/
import Derived.Test.YtdgjbpefbkgnpaaMarkA
namespace Go.Proofs.Ytdgjbpefbkgnpaa
open Go.RowKit Go.Proofs.YtdgjbpefbkgnpaaW.PrintWords Go.Proofs.YtdgjbpefbkgnpaaW.PrintMore Go.Proofs.Ytdgjbpefbkgnpaa.Law Go.Proofs.Ytdgjbpefbkgnpaa.Num
set_option linter.unusedVariables false
set_option linter.unusedSimpArgs false
set_option autoImplicit false
set_option maxHeartbeats 4000000 in
set_option maxRecDepth 100000 in
theorem markState (x : State) (cs : List Value) (k : Int) (w0 w : World) (lo : Nat) (ok : Nat → Prop) (hB : Below w0.heap.size w0 w) (hlo : w0.heap.size ≤ lo) (hok : ∀ b, ok b → b < w.heap.size) (hm : kStateI.M w lo ok x cs) (h0 : 0 ≤ k) (h1 : k + x.regs.length ≤ 4611686018427387904) :
    Calls Try.prog 40 #[.agg ⟨cs⟩, .int .i64 k] w fun e w' => e = .returned (.int .i64 (k + x.regs.length)) ∧ kStateI.M w' lo ok ⟨x.acc, marks k x.regs.length⟩ cs ∧ Below w0.heap.size w0 w' ∧ Kept w w' ok := by
  obtain ⟨v, rfl, hr⟩ := kStateI_openM hm
  obtain ⟨A, c, rfl⟩ := Kd.R_slice hr
  clear hm
  have hu := Try.underlying36
  have HR := Aside0.mk (Kd.R_below hr (below_alloc (Below.refl w.heap.size w) (.cells #[.int .i64 x.acc, .slice A x.regs.length c] 36)))
  have HB := Aside0.mk (below_alloc hB (.cells #[.int .i64 x.acc, .slice A x.regs.length c] 36))
  have HK := Aside0.mk ((Kept.refl w ok).alloc (.cells #[.int .i64 x.acc, .slice A x.regs.length c] 36))
  clear hr hB
  go_enter Try.func40, Try.ntmps40
  go_wp2_with fail
  refine (markIntS _ x.regs k w0 _ lo ok HB.out hlo HR.out h0 h1).mono ?_
  rintro e w1 ⟨rfl, hr, hb, hk⟩
  have HR2 := Aside0.mk hr; have HB2 := Aside0.mk hb; have HK2 := Aside0.mk (HK.out.then_ hk (fun b hb => .inl hb))
  clear hr hb hk HR HB HK
  go_wp2
  go_ret
  exact ⟨rfl, kStateI_mkM _ _ _ ⟨x.acc, marks k x.regs.length⟩ (by simpa [marks_len] using HR2.out), HB2.out, HK2.out⟩
set_option maxHeartbeats 4000000 in
set_option maxRecDepth 100000 in
theorem heldState (x : State) (cs : List Value) (n : Nat) (k : Int) (w : World) (hk : kStateI.K w x cs) (hl : x.regs = marks k n) (h0 : 0 ≤ k) (h1 : k + x.regs.length ≤ 4611686018427387904) :
    Calls Try.prog 41 #[.agg ⟨cs⟩, .int .i64 k] w fun e w' => e = .returned (.int .i64 (k + x.regs.length)) ∧ Below w.heap.size w w' := by
  obtain ⟨A, c, rfl, hc, hr⟩ := kStateI_open hk
  clear hk
  have hu := Try.underlying36
  have HR := Aside0.mk (Kd.C_below hr (below_alloc (Below.refl w.heap.size w) (.cells #[.int .i64 x.acc, .slice A x.regs.length c] 36)))
  have HB := Aside0.mk (below_alloc (Below.refl w.heap.size w) (.cells #[.int .i64 x.acc, .slice A x.regs.length c] 36))
  have HL := Aside0.mk hl
  have hneg : decide (k + (x.regs.length : Int) < 0) = false := by simp; omega
  clear hr hl
  go_enter Try.func41, Try.ntmps41
  go_wp2_with fail
  refine (heldIntS _ _ n x.regs k _ HR.out HL.out h0 h1).mono ?_
  rintro e w1 ⟨rfl, hb⟩
  have HB2 := Aside0.mk (below_step HB.out hb)
  clear hb HB HR
  go_wp2
  go_ret
  exact ⟨rfl, HB2.out⟩
end Go.Proofs.Ytdgjbpefbkgnpaa
