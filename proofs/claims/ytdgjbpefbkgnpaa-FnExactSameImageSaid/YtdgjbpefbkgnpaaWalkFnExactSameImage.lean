/- The walk of the law 'FnExactSameImage'. No condition beyond what the arguments read as. -/
import Derived.Deep.RegionWith
import Derived.Deep.RegionHeld3
import Derived.Deep.DeepCutAuto
import Derived.Test.YtdgjbpefbkgnpaaSame
import Derived.Test.YtdgjbpefbkgnpaaSzA
import Derived.Test.YtdgjbpefbkgnpaaEqB
import Derived.Test.YtdgjbpefbkgnpaaToB
namespace Go.Proofs.Ytdgjbpefbkgnpaa.WalkFnExactSameImage
open Go.RowKit Go.Proofs.YtdgjbpefbkgnpaaW.PrintWords Go.Proofs.YtdgjbpefbkgnpaaW.PrintMore Go.Proofs.Ytdgjbpefbkgnpaa.Law Go.Proofs.Ytdgjbpefbkgnpaa.Num
set_option linter.unusedVariables false
set_option linter.unusedSimpArgs false
set_option autoImplicit false
set_option maxHeartbeats 8000000 in
set_option maxRecDepth 100000 in
theorem w1 (x y : Image) (A0 A1 B0 B1 : Option Addr) (c0 c1 d0 d1 : Nat) (w : World) (hx : kImageL.K w x [.slice A0 x.funcs.length c0, .slice A1 x.consts.length c1]) (hy : kImageL.K w y [.slice B0 y.funcs.length d0, .slice B1 y.consts.length d1]) (gx : GoodImage x) (gy : GoodImage y) (e1 : sub 1048576 (sizeImage x) = -1) :
    Calls Try.prog 12 #[.agg #[.slice A0 x.funcs.length c0, .slice A1 x.consts.length c1], .agg #[.slice B0 y.funcs.length d0, .slice B1 y.consts.length d1]] w fun e w' => e = .returned (.bool true) ∧ Below w.heap.size w w' := by
  have hu := Try.underlying68; have hu2 := Try.underlying74
  have HX := Aside0.mk hx; have HY := Aside0.mk hy; clear hx hy
  have M0 := Aside0.mk (((Mem.start w).allocAt rfl #[.slice A0 x.funcs.length c0, .slice A1 x.consts.length c1] 68).allocAt (g := w.heap.size + 1) (by simp) #[.slice B0 y.funcs.length d0, .slice B1 y.consts.length d1] 68)
  go_enter Try.func12, Try.ntmps12
  go_wp2_with fail
  have C := szImage x _ 1048576 _ (M0.out.old HX.out) gx (by omega) (by omega)
  rw [e1] at C
  refine C.mono ?_; clear C
  rintro e w1 ⟨rfl, hb⟩
  have M1 := Aside0.mk (M0.out.step hb); clear M0 hb; have z0 := M1.out.box (.tail _ (.head _)); have z1 := M1.out.box (.head _)
  go_wp2
  go_ret
  exact ⟨rfl, M1.out.below⟩
set_option maxHeartbeats 8000000 in
set_option maxRecDepth 100000 in
theorem w2 (x y : Image) (A0 A1 B0 B1 : Option Addr) (c0 c1 d0 d1 : Nat) (w : World) (hx : kImageL.K w x [.slice A0 x.funcs.length c0, .slice A1 x.consts.length c1]) (hy : kImageL.K w y [.slice B0 y.funcs.length d0, .slice B1 y.consts.length d1]) (gx : GoodImage x) (gy : GoodImage y) (s1 : Int) (e1 : sub 1048576 (sizeImage x) = s1) (n1 : 0 ≤ s1) (n2 : s1 ≤ 1048576) (e2 : sub s1 (sizeImage y) = -1) :
    Calls Try.prog 12 #[.agg #[.slice A0 x.funcs.length c0, .slice A1 x.consts.length c1], .agg #[.slice B0 y.funcs.length d0, .slice B1 y.consts.length d1]] w fun e w' => e = .returned (.bool true) ∧ Below w.heap.size w w' := by
  have hu := Try.underlying68; have hu2 := Try.underlying74
  have HX := Aside0.mk hx; have HY := Aside0.mk hy; clear hx hy
  have M0 := Aside0.mk (((Mem.start w).allocAt rfl #[.slice A0 x.funcs.length c0, .slice A1 x.consts.length c1] 68).allocAt (g := w.heap.size + 1) (by simp) #[.slice B0 y.funcs.length d0, .slice B1 y.consts.length d1] 68)
  go_enter Try.func12, Try.ntmps12
  go_wp2_with fail
  have C := szImage x _ 1048576 _ (M0.out.old HX.out) gx (by omega) (by omega)
  rw [e1] at C
  refine C.mono ?_; clear C
  rintro e w1 ⟨rfl, hb⟩
  have M1 := Aside0.mk (M0.out.step hb); clear M0 hb; have z0 := M1.out.box (.tail _ (.head _)); have z1 := M1.out.box (.head _)
  have m1 : decide (s1 < 0) = false := by simp; omega
  go_wp2_with fail
  have C := szImage y _ s1 _ (M1.out.old HY.out) gy (by omega) (by omega)
  rw [e2] at C
  refine C.mono ?_; clear C
  rintro e w2 ⟨rfl, hb⟩
  have M2 := Aside0.mk (M1.out.step hb); clear M1 hb z0 z1
  have z0 := M2.out.box (.tail _ (.head _)); have z1 := M2.out.box (.head _)
  go_wp2
  go_ret
  exact ⟨rfl, M2.out.below⟩
set_option maxHeartbeats 8000000 in
set_option maxRecDepth 100000 in
theorem w3 (x y : Image) (A0 A1 B0 B1 : Option Addr) (c0 c1 d0 d1 : Nat) (w : World) (hx : kImageL.K w x [.slice A0 x.funcs.length c0, .slice A1 x.consts.length c1]) (hy : kImageL.K w y [.slice B0 y.funcs.length d0, .slice B1 y.consts.length d1]) (gx : GoodImage x) (gy : GoodImage y) (s1 s2 : Int) (e1 : sub 1048576 (sizeImage x) = s1) (n1 : 0 ≤ s1) (n2 : s1 ≤ 1048576) (e2 : sub s1 (sizeImage y) = s2) (n3 : 0 ≤ s2) (hlx : LenImage x) (hly : LenImage y) :
    Calls Try.prog 12 #[.agg #[.slice A0 x.funcs.length c0, .slice A1 x.consts.length c1], .agg #[.slice B0 y.funcs.length d0, .slice B1 y.consts.length d1]] w fun e w' => e = .returned (.bool true) ∧ Below w.heap.size w w' := by
  have hu := Try.underlying68; have hu2 := Try.underlying74
  have HX := Aside0.mk hx; have HY := Aside0.mk hy; clear hx hy
  have M0 := Aside0.mk (((Mem.start w).allocAt rfl #[.slice A0 x.funcs.length c0, .slice A1 x.consts.length c1] 68).allocAt (g := w.heap.size + 1) (by simp) #[.slice B0 y.funcs.length d0, .slice B1 y.consts.length d1] 68)
  go_enter Try.func12, Try.ntmps12
  go_wp2_with fail
  have C := szImage x _ 1048576 _ (M0.out.old HX.out) gx (by omega) (by omega)
  rw [e1] at C
  refine C.mono ?_; clear C
  rintro e w1 ⟨rfl, hb⟩
  have M1 := Aside0.mk (M0.out.step hb); clear M0 hb; have z0 := M1.out.box (.tail _ (.head _)); have z1 := M1.out.box (.head _)
  have m1 : decide (s1 < 0) = false := by simp; omega
  have m2 : decide (s2 < 0) = false := by simp; omega
  go_wp2_with fail
  have C := szImage y _ s1 _ (M1.out.old HY.out) gy (by omega) (by omega)
  rw [e2] at C
  refine C.mono ?_; clear C
  rintro e w2 ⟨rfl, hb⟩
  have M2 := Aside0.mk (M1.out.step hb); clear M1 hb z0 z1
  have HLX := Aside0.mk hlx; have HLY := Aside0.mk hly; clear hlx hly
  have z0 := M2.out.box (.tail _ (.head _)); have z1 := M2.out.box (.head _)
  go_upto_region 8 with fail
  clear z0 z1
  obtain ⟨L, HL, ML⟩ := Mem.hide M2
  have EbA := Aside0.mk (show (Hold.box w.heap.size #[.slice A0 x.funcs.length c0, .slice A1 x.consts.length c1] 68) ∈ L from HL.out ▸ (.tail _ (.head _)))
  have EbB := Aside0.mk (show (Hold.box (w.heap.size + 1) #[.slice B0 y.funcs.length d0, .slice B1 y.consts.length d1] 68) ∈ L from HL.out ▸ (.head _))
  clear M2
  go_region_held3 (fun W => (∀ o, W.cell? ⟨w.heap.size, o, none⟩ = (#[.slice A0 x.funcs.length c0, .slice A1 x.consts.length c1] : Array Value)[o]?) ∧ (∀ o, W.cell? ⟨w.heap.size + 1, o, none⟩ = (#[.slice B0 y.funcs.length d0, .slice B1 y.consts.length d1] : Array Value)[o]?) ∧ Mem w W L) (first | exact ⟨(ML.out.drew).box EbA.out, (ML.out.drew).box EbB.out, ML.out.drew⟩ | exact ⟨(M3.out.drop).box EbA.out, (M3.out.drop).box EbB.out, M3.out.drop⟩ | exact ⟨(M4.out.drop.drop).box EbA.out, (M4.out.drop.drop).box EbB.out, M4.out.drop.drop⟩ | exact ⟨(M5.out).box EbA.out, (M5.out).box EbB.out, M5.out⟩) (first | (go_at_call_of 49 x; refine (toImage x _ _ (ML.out.drew.old HX.out) HLX.out).mono ?_; rintro e w3 ⟨ds, rfl, hm, hb⟩; obtain ⟨v0, v1, rfl, hr0, hr1⟩ := kImageI_openM hm; obtain ⟨X30, y30, rfl⟩ := Kd.R_slice hr0; obtain ⟨X31, y31, rfl⟩ := Kd.R_slice hr1; clear hr0 hr1; have M3 := Aside0.mk (ML.out.drew.push hb hm); clear hm hb) | (go_at_call_of 49 y; refine (toImage y _ _ (M3.out.old HY.out) HLY.out).mono ?_; rintro e w4 ⟨ds, rfl, hm, hb⟩; obtain ⟨v0, v1, rfl, hr0, hr1⟩ := kImageI_openM hm; obtain ⟨X40, y40, rfl⟩ := Kd.R_slice hr0; obtain ⟨X41, y41, rfl⟩ := Kd.R_slice hr1; clear hr0 hr1; have M4 := Aside0.mk (M3.out.push hb hm); clear hm hb) | (go_at_call 48; refine (specSameImage x y _ _ _ (M4.out.read (.tail _ (.head _))) (M4.out.read (.head _))).mono ?_; rintro e w5 ⟨rfl, hb⟩; have M5 := Aside0.mk ((M4.out.step hb).drop.drop); clear hb))
  clear ML M3 M4
  have hl := HL.out; subst hl; clear HL EbA EbB
  have z_bA := M5.out.box (.tail _ (.head _))
  go_wp2_with fail
  clear z_bA
  refine (toImage x _ _ (M5.out.old HX.out) HLX.out).mono ?_; rintro e w21 ⟨ds, rfl, hm, hb⟩; obtain ⟨v0, v1, rfl, hr0, hr1⟩ := kImageI_openM hm; obtain ⟨X210, y210, rfl⟩ := Kd.R_slice hr0; obtain ⟨X211, y211, rfl⟩ := Kd.R_slice hr1; clear hr0 hr1
  have N21 := Aside0.mk (M5.out.push hb hm); clear hm hb M5
  have M21 := Aside0.mk (N21.out.allocAt rfl #[.slice X210 x.funcs.length y210, .slice X211 x.consts.length y211] 74); clear N21
  have z_bB := M21.out.box (.tail _ (.tail _ (.head _)))
  go_wp2_with fail
  clear z_bB
  refine (toImage y _ _ (M21.out.old HY.out) HLY.out).mono ?_; rintro e w22 ⟨ds, rfl, hm, hb⟩; obtain ⟨v0, v1, rfl, hr0, hr1⟩ := kImageI_openM hm; obtain ⟨X220, y220, rfl⟩ := Kd.R_slice hr0; obtain ⟨X221, y221, rfl⟩ := Kd.R_slice hr1; clear hr0 hr1
  have N22 := Aside0.mk (M21.out.push hb hm); clear hm hb M21
  have M22 := Aside0.mk (N22.out.allocAt rfl #[.slice X220 y.funcs.length y220, .slice X221 y.consts.length y221] 74); clear N22
  have z_bx := M22.out.box (.tail _ (.tail _ (.head _))); have z_by := M22.out.box (.head _)
  go_wp2_with fail
  clear z_bx z_by
  refine (implSameImage x y _ _ _ (M22.out.read (.tail _ (.tail _ (.tail _ (.head _))))) (M22.out.read (.tail _ (.head _)))).mono ?_; rintro e w23 ⟨rfl, hb⟩
  have M23 := Aside0.mk (M22.out.step hb); clear hb M22
  have hrr : (decide (x = y) != decide (x = y)) = false := by simp
  go_wp2_with fail
  have RX := Aside0.mk (M23.out.read (.tail _ (.tail _ (.tail _ (.head _)))))
  obtain ⟨L, HL, ML⟩ := Mem.hide M23
  have Ebx := Aside0.mk (show (Hold.box w21.heap.size #[.slice X210 x.funcs.length y210, .slice X211 x.consts.length y211] 74) ∈ L from HL.out ▸ (.tail _ (.tail _ (.head _))))
  have EbA := Aside0.mk (show (Hold.box w.heap.size #[.slice A0 x.funcs.length c0, .slice A1 x.consts.length c1] 68) ∈ L from HL.out ▸ (.tail _ (.tail _ (.tail _ (.tail _ (.tail _ (.head _)))))))
  clear M23
  go_region_held3 (fun W => (∀ o, W.cell? ⟨w21.heap.size, o, none⟩ = (#[.slice X210 x.funcs.length y210, .slice X211 x.consts.length y211] : Array Value)[o]?) ∧ (∀ o, W.cell? ⟨w.heap.size, o, none⟩ = (#[.slice A0 x.funcs.length c0, .slice A1 x.consts.length c1] : Array Value)[o]?) ∧ Mem w W L) (first | exact ⟨(ML.out.drew).box Ebx.out, (ML.out.drew).box EbA.out, ML.out.drew⟩ | exact ⟨(N24.out.drop).box Ebx.out, (N24.out.drop).box EbA.out, N24.out.drop⟩ | exact ⟨(M25.out).box Ebx.out, (M25.out).box EbA.out, M25.out⟩) (first | (go_at_call 49; refine (toImage x _ _ (ML.out.drew.old HX.out) HLX.out).mono ?_; rintro e w24 ⟨ds, rfl, hm, hb⟩; obtain ⟨v0, v1, rfl, hr0, hr1⟩ := kImageI_openM hm; obtain ⟨X240, y240, rfl⟩ := Kd.R_slice hr0; obtain ⟨X241, y241, rfl⟩ := Kd.R_slice hr1; clear hr0 hr1; have N24 := Aside0.mk (ML.out.drew.push hb hm); have RX2 := Aside0.mk (kImageI.K_below (below_step (below_drew1 (Below.refl _ _)) hb) RX.out); clear hm hb) | (go_at_call 51; have C := eqImage x x _ _ _ RX2.out (N24.out.read (.head _)); rw [decide_eq_true rfl] at C; refine C.mono ?_; clear C; rintro e w25 ⟨rfl, hb⟩; have M25 := Aside0.mk ((N24.out.step hb).drop); clear hb))
  clear ML RX RX2 N24
  have hl := HL.out; subst hl; clear HL Ebx EbA
  go_wp2_with fail
  have RX := Aside0.mk (M25.out.read (.tail _ (.head _)))
  obtain ⟨L, HL, ML⟩ := Mem.hide M25
  have Eby := Aside0.mk (show (Hold.box w22.heap.size #[.slice X220 y.funcs.length y220, .slice X221 y.consts.length y221] 74) ∈ L from HL.out ▸ (.head _))
  have EbB := Aside0.mk (show (Hold.box (w.heap.size + 1) #[.slice B0 y.funcs.length d0, .slice B1 y.consts.length d1] 68) ∈ L from HL.out ▸ (.tail _ (.tail _ (.tail _ (.tail _ (.head _))))))
  clear M25
  go_region_held3 (fun W => (∀ o, W.cell? ⟨w22.heap.size, o, none⟩ = (#[.slice X220 y.funcs.length y220, .slice X221 y.consts.length y221] : Array Value)[o]?) ∧ (∀ o, W.cell? ⟨w.heap.size + 1, o, none⟩ = (#[.slice B0 y.funcs.length d0, .slice B1 y.consts.length d1] : Array Value)[o]?) ∧ Mem w W L) (first | exact ⟨(ML.out.drew).box Eby.out, (ML.out.drew).box EbB.out, ML.out.drew⟩ | exact ⟨(N26.out.drop).box Eby.out, (N26.out.drop).box EbB.out, N26.out.drop⟩ | exact ⟨(M27.out).box Eby.out, (M27.out).box EbB.out, M27.out⟩) (first | (go_at_call 49; refine (toImage y _ _ (ML.out.drew.old HY.out) HLY.out).mono ?_; rintro e w26 ⟨ds, rfl, hm, hb⟩; obtain ⟨v0, v1, rfl, hr0, hr1⟩ := kImageI_openM hm; obtain ⟨X260, y260, rfl⟩ := Kd.R_slice hr0; obtain ⟨X261, y261, rfl⟩ := Kd.R_slice hr1; clear hr0 hr1; have N26 := Aside0.mk (ML.out.drew.push hb hm); have RX2 := Aside0.mk (kImageI.K_below (below_step (below_drew1 (Below.refl _ _)) hb) RX.out); clear hm hb) | (go_at_call 51; have C := eqImage y y _ _ _ RX2.out (N26.out.read (.head _)); rw [decide_eq_true rfl] at C; refine C.mono ?_; clear C; rintro e w27 ⟨rfl, hb⟩; have M27 := Aside0.mk ((N26.out.step hb).drop); clear hb))
  clear ML RX RX2 N26
  have hl := HL.out; subst hl; clear HL Eby EbB
  go_wp2
  go_ret
  exact ⟨rfl, M27.out.below⟩
end Go.Proofs.Ytdgjbpefbkgnpaa.WalkFnExactSameImage
