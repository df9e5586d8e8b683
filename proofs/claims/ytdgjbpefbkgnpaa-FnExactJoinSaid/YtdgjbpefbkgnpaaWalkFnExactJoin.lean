/- The walk of the law 'FnExactJoin'. No condition beyond what the arguments read as. -/
import Derived.Deep.RegionWith
import Derived.Deep.RegionHeld3
import Derived.Deep.DeepCutAuto
import Derived.Test.YtdgjbpefbkgnpaaPureJoin
import Derived.Test.YtdgjbpefbkgnpaaSzS
import Derived.Test.YtdgjbpefbkgnpaaEqS
import Derived.Test.YtdgjbpefbkgnpaaToS
import Derived.Test.YtdgjbpefbkgnpaaMarkS
namespace Go.Proofs.Ytdgjbpefbkgnpaa.WalkFnExactJoin
open Go.RowKit Go.Proofs.YtdgjbpefbkgnpaaW.PrintWords Go.Proofs.YtdgjbpefbkgnpaaW.PrintMore Go.Proofs.Ytdgjbpefbkgnpaa.Law Go.Proofs.Ytdgjbpefbkgnpaa.Num Go.Proofs.Ytdgjbpefbkgnpaa.PureJoin
set_option linter.unusedVariables false
set_option linter.unusedSimpArgs false
set_option autoImplicit false
set_option maxHeartbeats 8000000 in
set_option maxRecDepth 100000 in
theorem w1 (x y : State) (A B : Option Addr) (c d : Nat) (w : World) (hx : kStateL.K w x [.int .i64 x.acc, .slice A x.regs.length c]) (hy : kStateL.K w y [.int .i64 y.acc, .slice B y.regs.length d]) (e1 : sub 1048576 (sizeState x) = -1) :
    Calls Try.prog 10 #[.agg #[.int .i64 x.acc, .slice A x.regs.length c], .agg #[.int .i64 y.acc, .slice B y.regs.length d]] w fun e w' => e = .returned (.bool true) ∧ Below w.heap.size w w' := by
  have hu := Try.underlying51; have hu2 := Try.underlying36
  have HX := Aside0.mk hx; have HY := Aside0.mk hy; clear hx hy
  have M0 := Aside0.mk (((Mem.start w).allocAt rfl #[.int .i64 x.acc, .slice A x.regs.length c] 51).allocAt (g := w.heap.size + 1) (by simp) #[.int .i64 y.acc, .slice B y.regs.length d] 51)
  go_enter Try.func10, Try.ntmps10
  go_wp2_with fail
  have C := szState x _ 1048576 _ (M0.out.old HX.out) trivial (by omega) (by omega)
  rw [e1] at C
  refine C.mono ?_; clear C
  rintro e w1 ⟨rfl, hb⟩
  have M1 := Aside0.mk (M0.out.step hb); clear M0 hb; have z0 := M1.out.box (.tail _ (.head _)); have z1 := M1.out.box (.head _)
  go_wp2
  go_ret
  exact ⟨rfl, M1.out.below⟩
set_option maxHeartbeats 8000000 in
set_option maxRecDepth 100000 in
theorem w2 (x y : State) (A B : Option Addr) (c d : Nat) (w : World) (hx : kStateL.K w x [.int .i64 x.acc, .slice A x.regs.length c]) (hy : kStateL.K w y [.int .i64 y.acc, .slice B y.regs.length d]) (s1 : Int) (e1 : sub 1048576 (sizeState x) = s1) (n1 : 0 ≤ s1) (n2 : s1 ≤ 1048576) (e2 : sub s1 (sizeState y) = -1) :
    Calls Try.prog 10 #[.agg #[.int .i64 x.acc, .slice A x.regs.length c], .agg #[.int .i64 y.acc, .slice B y.regs.length d]] w fun e w' => e = .returned (.bool true) ∧ Below w.heap.size w w' := by
  have hu := Try.underlying51; have hu2 := Try.underlying36
  have HX := Aside0.mk hx; have HY := Aside0.mk hy; clear hx hy
  have M0 := Aside0.mk (((Mem.start w).allocAt rfl #[.int .i64 x.acc, .slice A x.regs.length c] 51).allocAt (g := w.heap.size + 1) (by simp) #[.int .i64 y.acc, .slice B y.regs.length d] 51)
  go_enter Try.func10, Try.ntmps10
  go_wp2_with fail
  have C := szState x _ 1048576 _ (M0.out.old HX.out) trivial (by omega) (by omega)
  rw [e1] at C
  refine C.mono ?_; clear C
  rintro e w1 ⟨rfl, hb⟩
  have M1 := Aside0.mk (M0.out.step hb); clear M0 hb; have z0 := M1.out.box (.tail _ (.head _)); have z1 := M1.out.box (.head _)
  have m1 : decide (s1 < 0) = false := by simp; omega
  go_wp2_with fail
  have C := szState y _ s1 _ (M1.out.old HY.out) trivial (by omega) (by omega)
  rw [e2] at C
  refine C.mono ?_; clear C
  rintro e w2 ⟨rfl, hb⟩
  have M2 := Aside0.mk (M1.out.step hb); clear M1 hb z0 z1
  have z0 := M2.out.box (.tail _ (.head _)); have z1 := M2.out.box (.head _)
  go_wp2
  go_ret
  exact ⟨rfl, M2.out.below⟩
set_option maxHeartbeats 8000000 in
set_option maxRecDepth 100000 in
theorem w3 (x y : State) (A B : Option Addr) (c d : Nat) (w : World) (hx : kStateL.K w x [.int .i64 x.acc, .slice A x.regs.length c]) (hy : kStateL.K w y [.int .i64 y.acc, .slice B y.regs.length d]) (s1 s2 : Int) (e1 : sub 1048576 (sizeState x) = s1) (n1 : 0 ≤ s1) (n2 : s1 ≤ 1048576) (e2 : sub s1 (sizeState y) = s2) (n3 : 0 ≤ s2) (hlx : x.regs.length ≤ 1048576) (hly : y.regs.length ≤ 1048576) :
    Calls Try.prog 10 #[.agg #[.int .i64 x.acc, .slice A x.regs.length c], .agg #[.int .i64 y.acc, .slice B y.regs.length d]] w fun e w' => e = .returned (.bool true) ∧ Below w.heap.size w w' := by
  have hu := Try.underlying51; have hu2 := Try.underlying36
  have HX := Aside0.mk hx; have HY := Aside0.mk hy; clear hx hy
  have M0 := Aside0.mk (((Mem.start w).allocAt rfl #[.int .i64 x.acc, .slice A x.regs.length c] 51).allocAt (g := w.heap.size + 1) (by simp) #[.int .i64 y.acc, .slice B y.regs.length d] 51)
  go_enter Try.func10, Try.ntmps10
  go_wp2_with fail
  have C := szState x _ 1048576 _ (M0.out.old HX.out) trivial (by omega) (by omega)
  rw [e1] at C
  refine C.mono ?_; clear C
  rintro e w1 ⟨rfl, hb⟩
  have M1 := Aside0.mk (M0.out.step hb); clear M0 hb; have z0 := M1.out.box (.tail _ (.head _)); have z1 := M1.out.box (.head _)
  have m1 : decide (s1 < 0) = false := by simp; omega
  have m2 : decide (s2 < 0) = false := by simp; omega
  go_wp2_with fail
  have C := szState y _ s1 _ (M1.out.old HY.out) trivial (by omega) (by omega)
  rw [e2] at C
  refine C.mono ?_; clear C
  rintro e w2 ⟨rfl, hb⟩
  have M2 := Aside0.mk (M1.out.step hb); clear M1 hb z0 z1
  have HLX := Aside0.mk hlx; have HLY := Aside0.mk hly; clear hlx hly
  have z0 := M2.out.box (.tail _ (.head _)); have z1 := M2.out.box (.head _)
  go_upto_region 8 with fail
  clear z0 z1
  obtain ⟨L, HL, ML⟩ := Mem.hide M2
  have EbA := Aside0.mk (show (Hold.box w.heap.size #[.int .i64 x.acc, .slice A x.regs.length c] 51) ∈ L from HL.out ▸ (.tail _ (.head _)))
  have EbB := Aside0.mk (show (Hold.box (w.heap.size + 1) #[.int .i64 y.acc, .slice B y.regs.length d] 51) ∈ L from HL.out ▸ (.head _))
  clear M2
  go_cut [6] (fun sl wx => ∃ (g lo hi : Nat) (X : Option Addr) (Y : Nat), sl = .pointer (some ⟨g, 0, none⟩) ∧ Aside0 (Mem w wx ((Hold.box g #[.int .i64 (joinS x y).acc, .slice X (joinS x y).regs.length Y] 36) :: (Hold.val kStateI lo hi (joinS x y) [.int .i64 (joinS x y).acc, .slice X (joinS x y).regs.length Y]) :: L)))
  case first =>
    go_region_held3 (fun W => (∀ o, W.cell? ⟨w.heap.size, o, none⟩ = (#[.int .i64 x.acc, .slice A x.regs.length c] : Array Value)[o]?) ∧ (∀ o, W.cell? ⟨w.heap.size + 1, o, none⟩ = (#[.int .i64 y.acc, .slice B y.regs.length d] : Array Value)[o]?) ∧ Mem w W L) (first | exact ⟨((ML.out.drew)).box EbA.out, ((ML.out.drew)).box EbB.out, (ML.out.drew)⟩ | exact ⟨((ML.out.drew.alloc _ _).drop).box EbA.out, ((ML.out.drew.alloc _ _).drop).box EbB.out, (ML.out.drew.alloc _ _).drop⟩ | exact ⟨((M3.out).drop).box EbA.out, ((M3.out).drop).box EbB.out, (M3.out).drop⟩ | exact ⟨((M3.out.alloc _ _).drop.drop).box EbA.out, ((M3.out.alloc _ _).drop.drop).box EbB.out, (M3.out.alloc _ _).drop.drop⟩ | exact ⟨((M3b.out).drop.drop).box EbA.out, ((M3b.out).drop.drop).box EbB.out, (M3b.out).drop.drop⟩ | exact ⟨((M4.out).drop.drop).box EbA.out, ((M4.out).drop.drop).box EbB.out, (M4.out).drop.drop⟩ | exact ⟨((M4.out.alloc _ _).drop.drop.drop).box EbA.out, ((M4.out.alloc _ _).drop.drop.drop).box EbB.out, (M4.out.alloc _ _).drop.drop.drop⟩ | exact ⟨((M4b.out).drop.drop.drop).box EbA.out, ((M4b.out).drop.drop.drop).box EbB.out, (M4b.out).drop.drop.drop⟩ | exact ⟨((M5.out).drop.drop.drop).box EbA.out, ((M5.out).drop.drop.drop).box EbB.out, (M5.out).drop.drop.drop⟩ | exact ⟨((M5.out.alloc _ _).drop.drop.drop.drop).box EbA.out, ((M5.out.alloc _ _).drop.drop.drop.drop).box EbB.out, (M5.out.alloc _ _).drop.drop.drop.drop⟩ | exact ⟨((M5b.out).drop.drop.drop.drop).box EbA.out, ((M5b.out).drop.drop.drop.drop).box EbB.out, (M5b.out).drop.drop.drop.drop⟩ | exact ⟨((Mem.set (A := []) (Mem.set (A := []) M5b.out 0 _ rfl) 1 _ rfl).drop.drop.drop.drop).box EbA.out, ((Mem.set (A := []) (Mem.set (A := []) M5b.out 0 _ rfl) 1 _ rfl).drop.drop.drop.drop).box EbB.out, (Mem.set (A := []) (Mem.set (A := []) M5b.out 0 _ rfl) 1 _ rfl).drop.drop.drop.drop⟩) (first | (go_at_call_of 38 x; refine (toState x _ _ ((ML.out.drew).old HX.out) HLX.out).mono ?_; rintro e w3 ⟨ds, rfl, hm, hb⟩; obtain ⟨v, rfl, hr⟩ := kStateI_openM hm; obtain ⟨X3, y3, rfl⟩ := Kd.R_slice hr; clear hr; have M3 := Aside0.mk ((ML.out.drew).push hb hm); clear hm hb) | (go_at_call_of 38 x; refine (toState x _ _ ((ML.out.drew.allocAt (g := w2.heap.size) rfl #[.int .i64 0, .slice none 0 0] 36).old HX.out) HLX.out).mono ?_; rintro e w3 ⟨ds, rfl, hm, hb⟩; obtain ⟨v, rfl, hr⟩ := kStateI_openM hm; obtain ⟨X3, y3, rfl⟩ := Kd.R_slice hr; clear hr; have M3b := Aside0.mk ((ML.out.drew.allocAt (g := w2.heap.size) rfl #[.int .i64 0, .slice none 0 0] 36).push hb hm).swap2; clear hm hb) | (go_at_call_of 38 y; refine (toState y _ _ ((M3.out).old HY.out) HLY.out).mono ?_; rintro e w4 ⟨ds, rfl, hm, hb⟩; obtain ⟨v, rfl, hr⟩ := kStateI_openM hm; obtain ⟨X4, y4, rfl⟩ := Kd.R_slice hr; clear hr; have M4 := Aside0.mk ((M3.out).push hb hm); clear hm hb) | (go_at_call_of 38 y; refine (toState y _ _ ((M3.out.alloc #[.int .i64 0, .slice none 0 0] 36).old HY.out) HLY.out).mono ?_; rintro e w4 ⟨ds, rfl, hm, hb⟩; obtain ⟨v, rfl, hr⟩ := kStateI_openM hm; obtain ⟨X4, y4, rfl⟩ := Kd.R_slice hr; clear hr; have M4b := Aside0.mk ((M3.out.alloc #[.int .i64 0, .slice none 0 0] 36).push hb hm).swap2; clear hm hb) | (go_at_call_of 38 y; refine (toState y _ _ ((M3b.out).old HY.out) HLY.out).mono ?_; rintro e w4 ⟨ds, rfl, hm, hb⟩; obtain ⟨v, rfl, hr⟩ := kStateI_openM hm; obtain ⟨X4, y4, rfl⟩ := Kd.R_slice hr; clear hr; have M4b := Aside0.mk ((M3b.out).push hb hm).swap2; clear hm hb) | (go_at_call 37; refine (specJoin x y _ _ _ ((M4.out).read (.tail _ (.head _))) ((M4.out).read (.head _)) HLX.out HLY.out).mono ?_; rintro e w5 ⟨ds, rfl, hm, hb⟩; obtain ⟨v, rfl, hr⟩ := kStateI_openM hm; obtain ⟨X5, y5, rfl⟩ := Kd.R_slice hr; clear hr; have M5 := Aside0.mk ((M4.out).push hb hm); clear hm hb) | (go_at_call 37; refine (specJoin x y _ _ _ ((M4.out.alloc #[.int .i64 0, .slice none 0 0] 36).read (.tail _ (.tail _ (.head _)))) ((M4.out.alloc #[.int .i64 0, .slice none 0 0] 36).read (.tail _ (.head _))) HLX.out HLY.out).mono ?_; rintro e w5 ⟨ds, rfl, hm, hb⟩; obtain ⟨v, rfl, hr⟩ := kStateI_openM hm; obtain ⟨X5, y5, rfl⟩ := Kd.R_slice hr; clear hr; have M5b := Aside0.mk ((M4.out.alloc #[.int .i64 0, .slice none 0 0] 36).push hb hm).swap2; have zb := M5b.out.box (.head _); have fb := M5b.out.free (.head _); clear hm hb) | (go_at_call 37; refine (specJoin x y _ _ _ ((M4b.out).read (.tail _ (.tail _ (.head _)))) ((M4b.out).read (.tail _ (.head _))) HLX.out HLY.out).mono ?_; rintro e w5 ⟨ds, rfl, hm, hb⟩; obtain ⟨v, rfl, hr⟩ := kStateI_openM hm; obtain ⟨X5, y5, rfl⟩ := Kd.R_slice hr; clear hr; have M5b := Aside0.mk ((M4b.out).push hb hm).swap2; have zb := M5b.out.box (.head _); have fb := M5b.out.free (.head _); clear hm hb))
    all_goals (go_wp2_with fail; go_meet; first | exact ⟨_, _, _, _, _, rfl, ⟨(M5.out.del1.del1).alloc _ _⟩⟩ | exact ⟨_, _, _, _, _, rfl, ⟨Mem.mid (A := [_, _]) (Mem.mid (A := [_, _]) (Mem.set (A := []) (Mem.set (A := []) M5b.out 0 _ rfl) 1 _ rfl))⟩⟩)
  case rest =>
  clear ML
  obtain ⟨Gw, low, hiw, Xw, Yw, rfl, Mw⟩ := hcut
  have hl := HL.out; subst hl; clear HL EbA EbB
  have z_bA := Mw.out.box (.tail _ (.tail _ (.tail _ (.head _))))
  go_wp2_with fail
  clear z_bA
  refine (toState x _ _ (Mw.out.old HX.out) HLX.out).mono ?_; rintro e w21 ⟨ds, rfl, hm, hb⟩; obtain ⟨v, rfl, hr⟩ := kStateI_openM hm; obtain ⟨X21, y21, rfl⟩ := Kd.R_slice hr; clear hr
  have N21 := Aside0.mk (Mw.out.push hb hm); clear hm hb Mw
  have M21 := Aside0.mk (N21.out.allocAt rfl #[.int .i64 x.acc, .slice X21 x.regs.length y21] 36); clear N21
  have z_bB := M21.out.box (.tail _ (.tail _ (.tail _ (.tail _ (.head _)))))
  go_wp2_with fail
  clear z_bB
  refine (toState y _ _ (M21.out.old HY.out) HLY.out).mono ?_; rintro e w22 ⟨ds, rfl, hm, hb⟩; obtain ⟨v, rfl, hr⟩ := kStateI_openM hm; obtain ⟨X22, y22, rfl⟩ := Kd.R_slice hr; clear hr
  have N22 := Aside0.mk (M21.out.push hb hm); clear hm hb M21
  have M22 := Aside0.mk (N22.out.allocAt rfl #[.int .i64 y.acc, .slice X22 y.regs.length y22] 36); clear N22
  have z_bx := M22.out.box (.tail _ (.tail _ (.head _))); have z_by := M22.out.box (.head _)
  go_wp2_with fail
  clear z_bx z_by
  refine (implJoin x y _ _ _ (M22.out.read (.tail _ (.tail _ (.tail _ (.head _))))) (M22.out.read (.tail _ (.head _))) HLX.out HLY.out).mono ?_; rintro e w23 ⟨ds, rfl, hm, hb⟩; obtain ⟨v, rfl, hr⟩ := kStateI_openM hm; obtain ⟨X23, y23, rfl⟩ := Kd.R_slice hr; clear hr
  have N23 := Aside0.mk (M22.out.push hb hm); clear hm hb M22
  have M23 := Aside0.mk (N23.out.allocAt rfl #[.int .i64 (joinS x y).acc, .slice X23 (joinS x y).regs.length y23] 36); clear N23
  have z_bg := M23.out.box (.head _); have z_bw := M23.out.box (.tail _ (.tail _ (.tail _ (.tail _ (.tail _ (.tail _ (.head _)))))))
  go_wp2_with fail
  clear z_bg z_bw
  have C := eqState (joinS x y) (joinS x y) _ _ _ (M23.out.read (.tail _ (.head _))) (M23.out.read (.tail _ (.tail _ (.tail _ (.tail _ (.tail _ (.tail _ (.tail _ (.head _)))))))))
  rw [decide_eq_true rfl] at C
  refine C.mono ?_; clear C; rintro e w24 ⟨rfl, hb⟩
  have M24 := Aside0.mk (M23.out.step hb); clear hb M23
  go_wp2_with fail
  have RX := Aside0.mk (M24.out.read (.tail _ (.tail _ (.tail _ (.tail _ (.tail _ (.head _)))))))
  obtain ⟨L, HL, ML⟩ := Mem.hide M24
  have Ebx := Aside0.mk (show (Hold.box w21.heap.size #[.int .i64 x.acc, .slice X21 x.regs.length y21] 36) ∈ L from HL.out ▸ (.tail _ (.tail _ (.tail _ (.tail _ (.head _))))))
  have EbA := Aside0.mk (show (Hold.box w.heap.size #[.int .i64 x.acc, .slice A x.regs.length c] 51) ∈ L from HL.out ▸ (.tail _ (.tail _ (.tail _ (.tail _ (.tail _ (.tail _ (.tail _ (.tail _ (.tail _ (.head _)))))))))))
  clear M24
  go_region_held3 (fun W => (∀ o, W.cell? ⟨w21.heap.size, o, none⟩ = (#[.int .i64 x.acc, .slice X21 x.regs.length y21] : Array Value)[o]?) ∧ (∀ o, W.cell? ⟨w.heap.size, o, none⟩ = (#[.int .i64 x.acc, .slice A x.regs.length c] : Array Value)[o]?) ∧ Mem w W L) (first | exact ⟨(ML.out.drew).box Ebx.out, (ML.out.drew).box EbA.out, ML.out.drew⟩ | exact ⟨(N25.out.drop).box Ebx.out, (N25.out.drop).box EbA.out, N25.out.drop⟩ | exact ⟨(M26.out).box Ebx.out, (M26.out).box EbA.out, M26.out⟩) (first | (go_at_call 38; refine (toState x _ _ (ML.out.drew.old HX.out) HLX.out).mono ?_; rintro e w25 ⟨ds, rfl, hm, hb⟩; obtain ⟨v, rfl, hr⟩ := kStateI_openM hm; obtain ⟨X25, y25, rfl⟩ := Kd.R_slice hr; clear hr; have N25 := Aside0.mk (ML.out.drew.push hb hm); have RX2 := Aside0.mk (kStateI.K_below (below_step (below_drew1 (Below.refl _ _)) hb) RX.out); clear hm hb) | (go_at_call 39; have C := eqState x x _ _ _ RX2.out (N25.out.read (.head _)); rw [decide_eq_true rfl] at C; refine C.mono ?_; clear C; rintro e w26 ⟨rfl, hb⟩; have M26 := Aside0.mk ((N25.out.step hb).drop); clear hb))
  clear ML RX RX2 N25
  have hl := HL.out; subst hl; clear HL Ebx EbA
  go_wp2_with fail
  have RX := Aside0.mk (M26.out.read (.tail _ (.tail _ (.tail _ (.head _)))))
  obtain ⟨L, HL, ML⟩ := Mem.hide M26
  have Eby := Aside0.mk (show (Hold.box w22.heap.size #[.int .i64 y.acc, .slice X22 y.regs.length y22] 36) ∈ L from HL.out ▸ (.tail _ (.tail _ (.head _))))
  have EbB := Aside0.mk (show (Hold.box (w.heap.size + 1) #[.int .i64 y.acc, .slice B y.regs.length d] 51) ∈ L from HL.out ▸ (.tail _ (.tail _ (.tail _ (.tail _ (.tail _ (.tail _ (.tail _ (.tail _ (.head _))))))))))
  clear M26
  go_region_held3 (fun W => (∀ o, W.cell? ⟨w22.heap.size, o, none⟩ = (#[.int .i64 y.acc, .slice X22 y.regs.length y22] : Array Value)[o]?) ∧ (∀ o, W.cell? ⟨w.heap.size + 1, o, none⟩ = (#[.int .i64 y.acc, .slice B y.regs.length d] : Array Value)[o]?) ∧ Mem w W L) (first | exact ⟨(ML.out.drew).box Eby.out, (ML.out.drew).box EbB.out, ML.out.drew⟩ | exact ⟨(N27.out.drop).box Eby.out, (N27.out.drop).box EbB.out, N27.out.drop⟩ | exact ⟨(M28.out).box Eby.out, (M28.out).box EbB.out, M28.out⟩) (first | (go_at_call 38; refine (toState y _ _ (ML.out.drew.old HY.out) HLY.out).mono ?_; rintro e w27 ⟨ds, rfl, hm, hb⟩; obtain ⟨v, rfl, hr⟩ := kStateI_openM hm; obtain ⟨X27, y27, rfl⟩ := Kd.R_slice hr; clear hr; have N27 := Aside0.mk (ML.out.drew.push hb hm); have RX2 := Aside0.mk (kStateI.K_below (below_step (below_drew1 (Below.refl _ _)) hb) RX.out); clear hm hb) | (go_at_call 39; have C := eqState y y _ _ _ RX2.out (N27.out.read (.head _)); rw [decide_eq_true rfl] at C; refine C.mono ?_; clear C; rintro e w28 ⟨rfl, hb⟩; have M28 := Aside0.mk ((N27.out.step hb).drop); clear hb))
  clear ML RX RX2 N27
  have hl := HL.out; subst hl; clear HL Eby EbB
  have hJ : (joinS x y).regs.length ≤ 1048576 := by have h1 := HLX.out; have h2 := HLY.out; show (joined x.regs y.regs).length ≤ 1048576; rw [joined_length]; omega
  have HJ := Aside0.mk hJ; clear hJ
  have z_bx := M28.out.box (.tail _ (.tail _ (.tail _ (.tail _ (.head _)))))
  go_wp2_with fail
  clear z_bx
  have hv := M28.out.val (.tail _ (.tail _ (.tail _ (.tail _ (.tail _ (.head _)))))); have hf := M28.out.fits _ (.tail _ (.tail _ (.tail _ (.tail _ (.tail _ (.head _))))))
  refine (markState x _ 1 w _ _ _ M28.out.below hf.1 (fun b hb => Nat.lt_of_lt_of_le hb.2 hf.2) hv (by have h1 := HLX.out; have h2 := HLY.out; have h3 := HJ.out; omega) (by have h1 := HLX.out; have h2 := HLY.out; have h3 := HJ.out; omega)).mono ?_; clear hv hf
  rintro e w29 ⟨rfl, hv, hb, hk⟩
  have M29 := Aside0.mk (Mem.mark (A := [_, _, _, _, _]) M28.out hb hk hv); clear hv hb hk M28
  have z_by := M29.out.box (.tail _ (.tail _ (.head _)))
  go_wp2_with fail
  clear z_by
  have hv := M29.out.val (.tail _ (.tail _ (.tail _ (.head _)))); have hf := M29.out.fits _ (.tail _ (.tail _ (.tail _ (.head _))))
  refine (markState y _ (1 + (x.regs.length : Int)) w _ _ _ M29.out.below hf.1 (fun b hb => Nat.lt_of_lt_of_le hb.2 hf.2) hv (by have h1 := HLX.out; have h2 := HLY.out; have h3 := HJ.out; omega) (by have h1 := HLX.out; have h2 := HLY.out; have h3 := HJ.out; omega)).mono ?_; clear hv hf
  rintro e w30 ⟨rfl, hv, hb, hk⟩
  have M30 := Aside0.mk (Mem.mark (A := [_, _, _]) M29.out hb hk hv); clear hv hb hk M29
  have gk : decide (1 + (x.regs.length : Int) + (y.regs.length : Int) < 0) = false := by simp; omega
  have z_bg := M30.out.box (.head _); have z_bw := M30.out.box (.tail _ (.tail _ (.tail _ (.tail _ (.tail _ (.tail _ (.head _)))))))
  go_wp2_with fail
  clear z_bg z_bw
  have C := eqState (joinS x y) (joinS x y) _ _ _ (M30.out.read (.tail _ (.head _))) (M30.out.read (.tail _ (.tail _ (.tail _ (.tail _ (.tail _ (.tail _ (.tail _ (.head _)))))))))
  rw [decide_eq_true rfl] at C
  refine C.mono ?_; clear C; rintro e w31 ⟨rfl, hb⟩
  have M31 := Aside0.mk (M30.out.step hb); clear hb M30
  clear gk
  have z_bg := M31.out.box (.head _)
  go_wp2_with fail
  clear z_bg
  have hv := M31.out.val (.tail _ (.head _)); have hf := M31.out.fits _ (.tail _ (.head _))
  refine (markState (joinS x y) _ 1 w _ _ _ M31.out.below hf.1 (fun b hb => Nat.lt_of_lt_of_le hb.2 hf.2) hv (by have h1 := HLX.out; have h2 := HLY.out; have h3 := HJ.out; omega) (by have h1 := HLX.out; have h2 := HLY.out; have h3 := HJ.out; omega)).mono ?_; clear hv hf
  rintro e w32 ⟨rfl, hv, hb, hk⟩
  have M32 := Aside0.mk (Mem.mark (A := [_]) M31.out hb hk hv); clear hv hb hk M31
  have z_bg := M32.out.box (.head _)
  go_wp2_with fail
  clear z_bg
  have C := heldState ⟨(joinS x y).acc, marks 1 (joinS x y).regs.length⟩ _ (joinS x y).regs.length 1 _ (M32.out.read (.tail _ (.head _))) rfl (by omega) (by show 1 + ((marks 1 (joinS x y).regs.length).length : Int) ≤ _; rw [marks_len]; have h3 := HJ.out; omega)
  simp only [marks_len] at C
  refine C.mono ?_; clear C; rintro e w33 ⟨rfl, hb⟩
  have M33 := Aside0.mk (M32.out.step hb); clear hb M32
  have gq : decide (1 + ((joinS x y).regs.length : Int) < 0) = false := by simp; omega
  have gn : (1 + ((joinS x y).regs.length : Int) != 1 + ((joinS x y).regs.length : Int)) = false := by simp
  go_upto_region 31 with fail
  obtain ⟨L, HL, ML⟩ := Mem.hide M33
  have EbA := Aside0.mk (show (Hold.box w.heap.size #[.int .i64 x.acc, .slice A x.regs.length c] 51) ∈ L from HL.out ▸ (.tail _ (.tail _ (.tail _ (.tail _ (.tail _ (.tail _ (.tail _ (.tail _ (.tail _ (.head _)))))))))))
  have EbB := Aside0.mk (show (Hold.box (w.heap.size + 1) #[.int .i64 y.acc, .slice B y.regs.length d] 51) ∈ L from HL.out ▸ (.tail _ (.tail _ (.tail _ (.tail _ (.tail _ (.tail _ (.tail _ (.tail _ (.head _))))))))))
  clear M33
  go_cut [13] (fun sl wx => ∃ (g lo hi : Nat) (X : Option Addr) (Y : Nat), sl = .pointer (some ⟨g, 0, none⟩) ∧ Aside0 (Mem w wx ((Hold.box g #[.int .i64 (joinS x y).acc, .slice X (joinS x y).regs.length Y] 36) :: (Hold.val kStateI lo hi (joinS x y) [.int .i64 (joinS x y).acc, .slice X (joinS x y).regs.length Y]) :: L)))
  case first =>
    go_region_held3 (fun W => (∀ o, W.cell? ⟨w.heap.size, o, none⟩ = (#[.int .i64 x.acc, .slice A x.regs.length c] : Array Value)[o]?) ∧ (∀ o, W.cell? ⟨w.heap.size + 1, o, none⟩ = (#[.int .i64 y.acc, .slice B y.regs.length d] : Array Value)[o]?) ∧ Mem w W L) (first | exact ⟨((ML.out.drew)).box EbA.out, ((ML.out.drew)).box EbB.out, (ML.out.drew)⟩ | exact ⟨((ML.out.drew.alloc _ _).drop).box EbA.out, ((ML.out.drew.alloc _ _).drop).box EbB.out, (ML.out.drew.alloc _ _).drop⟩ | exact ⟨((M3.out).drop).box EbA.out, ((M3.out).drop).box EbB.out, (M3.out).drop⟩ | exact ⟨((M3.out.alloc _ _).drop.drop).box EbA.out, ((M3.out.alloc _ _).drop.drop).box EbB.out, (M3.out.alloc _ _).drop.drop⟩ | exact ⟨((M3b.out).drop.drop).box EbA.out, ((M3b.out).drop.drop).box EbB.out, (M3b.out).drop.drop⟩ | exact ⟨((M4.out).drop.drop).box EbA.out, ((M4.out).drop.drop).box EbB.out, (M4.out).drop.drop⟩ | exact ⟨((M4.out.alloc _ _).drop.drop.drop).box EbA.out, ((M4.out.alloc _ _).drop.drop.drop).box EbB.out, (M4.out.alloc _ _).drop.drop.drop⟩ | exact ⟨((M4b.out).drop.drop.drop).box EbA.out, ((M4b.out).drop.drop.drop).box EbB.out, (M4b.out).drop.drop.drop⟩ | exact ⟨((M5.out).drop.drop.drop).box EbA.out, ((M5.out).drop.drop.drop).box EbB.out, (M5.out).drop.drop.drop⟩ | exact ⟨((M5.out.alloc _ _).drop.drop.drop.drop).box EbA.out, ((M5.out.alloc _ _).drop.drop.drop.drop).box EbB.out, (M5.out.alloc _ _).drop.drop.drop.drop⟩ | exact ⟨((M5b.out).drop.drop.drop.drop).box EbA.out, ((M5b.out).drop.drop.drop.drop).box EbB.out, (M5b.out).drop.drop.drop.drop⟩ | exact ⟨((Mem.set (A := []) (Mem.set (A := []) M5b.out 0 _ rfl) 1 _ rfl).drop.drop.drop.drop).box EbA.out, ((Mem.set (A := []) (Mem.set (A := []) M5b.out 0 _ rfl) 1 _ rfl).drop.drop.drop.drop).box EbB.out, (Mem.set (A := []) (Mem.set (A := []) M5b.out 0 _ rfl) 1 _ rfl).drop.drop.drop.drop⟩) (first | (go_at_call_of 38 x; refine (toState x _ _ ((ML.out.drew).old HX.out) HLX.out).mono ?_; rintro e w3 ⟨ds, rfl, hm, hb⟩; obtain ⟨v, rfl, hr⟩ := kStateI_openM hm; obtain ⟨X3, y3, rfl⟩ := Kd.R_slice hr; clear hr; have M3 := Aside0.mk ((ML.out.drew).push hb hm); clear hm hb) | (go_at_call_of 38 x; refine (toState x _ _ ((ML.out.drew.allocAt (g := w33.heap.size) rfl #[.int .i64 0, .slice none 0 0] 36).old HX.out) HLX.out).mono ?_; rintro e w3 ⟨ds, rfl, hm, hb⟩; obtain ⟨v, rfl, hr⟩ := kStateI_openM hm; obtain ⟨X3, y3, rfl⟩ := Kd.R_slice hr; clear hr; have M3b := Aside0.mk ((ML.out.drew.allocAt (g := w33.heap.size) rfl #[.int .i64 0, .slice none 0 0] 36).push hb hm).swap2; clear hm hb) | (go_at_call_of 38 y; refine (toState y _ _ ((M3.out).old HY.out) HLY.out).mono ?_; rintro e w4 ⟨ds, rfl, hm, hb⟩; obtain ⟨v, rfl, hr⟩ := kStateI_openM hm; obtain ⟨X4, y4, rfl⟩ := Kd.R_slice hr; clear hr; have M4 := Aside0.mk ((M3.out).push hb hm); clear hm hb) | (go_at_call_of 38 y; refine (toState y _ _ ((M3.out.alloc #[.int .i64 0, .slice none 0 0] 36).old HY.out) HLY.out).mono ?_; rintro e w4 ⟨ds, rfl, hm, hb⟩; obtain ⟨v, rfl, hr⟩ := kStateI_openM hm; obtain ⟨X4, y4, rfl⟩ := Kd.R_slice hr; clear hr; have M4b := Aside0.mk ((M3.out.alloc #[.int .i64 0, .slice none 0 0] 36).push hb hm).swap2; clear hm hb) | (go_at_call_of 38 y; refine (toState y _ _ ((M3b.out).old HY.out) HLY.out).mono ?_; rintro e w4 ⟨ds, rfl, hm, hb⟩; obtain ⟨v, rfl, hr⟩ := kStateI_openM hm; obtain ⟨X4, y4, rfl⟩ := Kd.R_slice hr; clear hr; have M4b := Aside0.mk ((M3b.out).push hb hm).swap2; clear hm hb) | (go_at_call 22; refine (implJoin x y _ _ _ ((M4.out).read (.tail _ (.head _))) ((M4.out).read (.head _)) HLX.out HLY.out).mono ?_; rintro e w5 ⟨ds, rfl, hm, hb⟩; obtain ⟨v, rfl, hr⟩ := kStateI_openM hm; obtain ⟨X5, y5, rfl⟩ := Kd.R_slice hr; clear hr; have M5 := Aside0.mk ((M4.out).push hb hm); clear hm hb) | (go_at_call 22; refine (implJoin x y _ _ _ ((M4.out.alloc #[.int .i64 0, .slice none 0 0] 36).read (.tail _ (.tail _ (.head _)))) ((M4.out.alloc #[.int .i64 0, .slice none 0 0] 36).read (.tail _ (.head _))) HLX.out HLY.out).mono ?_; rintro e w5 ⟨ds, rfl, hm, hb⟩; obtain ⟨v, rfl, hr⟩ := kStateI_openM hm; obtain ⟨X5, y5, rfl⟩ := Kd.R_slice hr; clear hr; have M5b := Aside0.mk ((M4.out.alloc #[.int .i64 0, .slice none 0 0] 36).push hb hm).swap2; have zb := M5b.out.box (.head _); have fb := M5b.out.free (.head _); clear hm hb) | (go_at_call 22; refine (implJoin x y _ _ _ ((M4b.out).read (.tail _ (.tail _ (.head _)))) ((M4b.out).read (.tail _ (.head _))) HLX.out HLY.out).mono ?_; rintro e w5 ⟨ds, rfl, hm, hb⟩; obtain ⟨v, rfl, hr⟩ := kStateI_openM hm; obtain ⟨X5, y5, rfl⟩ := Kd.R_slice hr; clear hr; have M5b := Aside0.mk ((M4b.out).push hb hm).swap2; have zb := M5b.out.box (.head _); have fb := M5b.out.free (.head _); clear hm hb))
    all_goals (go_wp2_with fail; go_meet; first | exact ⟨_, _, _, _, _, rfl, ⟨(M5.out.del1.del1).alloc _ _⟩⟩ | exact ⟨_, _, _, _, _, rfl, ⟨Mem.mid (A := [_, _]) (Mem.mid (A := [_, _]) (Mem.set (A := []) (Mem.set (A := []) M5b.out 0 _ rfl) 1 _ rfl))⟩⟩)
  case rest =>
  clear ML
  obtain ⟨Gh, loh, hih, Xh, Yh, rfl, Mh⟩ := hcut
  have hl := HL.out; subst hl; clear HL EbA EbB
  have z_bh := Mh.out.box (.head _); have z_bw := Mh.out.box (.tail _ (.tail _ (.tail _ (.tail _ (.tail _ (.tail _ (.tail _ (.tail _ (.head _)))))))))
  go_wp2_with fail
  clear z_bh z_bw
  have C := eqState (joinS x y) (joinS x y) _ _ _ (Mh.out.read (.tail _ (.head _))) (Mh.out.read (.tail _ (.tail _ (.tail _ (.tail _ (.tail _ (.tail _ (.tail _ (.tail _ (.tail _ (.head _)))))))))))
  rw [decide_eq_true rfl] at C
  refine C.mono ?_; clear C; rintro e w34 ⟨rfl, hb⟩
  have M34 := Aside0.mk (Mh.out.step hb); clear hb Mh
  have z_bg := M34.out.box (.tail _ (.tail _ (.head _)))
  go_wp2_with fail
  clear z_bg
  have C := heldState ⟨(joinS x y).acc, marks 1 (joinS x y).regs.length⟩ _ (joinS x y).regs.length 1 _ (M34.out.read (.tail _ (.tail _ (.tail _ (.head _))))) rfl (by omega) (by show 1 + ((marks 1 (joinS x y).regs.length).length : Int) ≤ _; rw [marks_len]; have h3 := HJ.out; omega)
  simp only [marks_len] at C
  refine C.mono ?_; clear C; rintro e w35 ⟨rfl, hb⟩
  have M35 := Aside0.mk (M34.out.step hb); clear hb M34
  go_wp2
  go_ret
  exact ⟨rfl, M35.out.below⟩
end Go.Proofs.Ytdgjbpefbkgnpaa.WalkFnExactJoin
