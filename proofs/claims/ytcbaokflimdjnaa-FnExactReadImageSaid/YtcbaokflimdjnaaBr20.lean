/- Part 20 of the proof: general lemmas, contracts of functions, walks. No condition of its own. -/
import Derived.Test.YtcbaokflimdjnaaBr19
import Derived.Test.YtcbaokflimdjnaaBr3
set_option linter.unusedVariables false
set_option linter.unusedSimpArgs false
set_option autoImplicit false
section
namespace Go.Proofs.Ytcbaokflimdjnaa.Law
open Go.RowKit Go.Proofs.YtcbaokflimdjnaaW.PrintWords Go.Proofs.YtcbaokflimdjnaaW.PrintLast Go.Proofs.Ytcbaokflimdjnaa.Steps Go.Proofs.YtcbaokflimdjnaaW.PrintMore Go.Proofs.Ytcbaokflimdjnaa.Num Go.Proofs.Ytcbaokflimdjnaa
set_option maxHeartbeats 16000000 in
set_option maxRecDepth 100000 in
theorem cFuncI (s : ByteArray) (a : Nat) (bad : Bool) (hs : s.size ≤ 12000) (ha : a ≤ s.size) (w0 W : World) (H : List Hold) (gr : Nat) (M : RdAt 120 w0 W H gr s a bad) :
  Calls Try.prog 90 #[.pointer (some ⟨gr, 0, none⟩)] W fun e w' => FPost 120 w0 W.heap.size H gr s a bad e w' := by
 have hu0 := Try.underlying120; have hu1 := Try.underlying73; have hu2 := Try.underlying105; have hu3 := Try.underlying76; have hu4 := Try.underlying107; have hu5 := Try.underlying69; have hu6 := Try.underlying70; have hu7 := Try.underlying71; have hu8 := Try.underlying3; have hu9 := Try.underlying9
 obtain ⟨g2, hg2⟩ : ∃ g2, g2 = W.heap.size := ⟨_, rfl⟩
 have HH := Aside0.mk (show gr + 1 ≤ g2 ∧ ∀ x ∈ H, x.hi ≤ g2 from ⟨by rw [hg2]; exact (Mem.fits M _ (.head _)).2, fun x hx => by rw [hg2]; exact (Mem.fits M x (.tail _ hx)).2⟩)
 have M1 : Aside0 (Mem w0 (W.alloc (.cells #[.int .i64 0, .int .i64 0, .slice none 0 0, .slice none 0 0, .slice none 0 0] 73)) (Hold.box gr #[.string s, .int .i64 (a : Int), .bool bad] 120 :: Hold.box g2 #[.int .i64 0, .int .i64 0, .slice none 0 0, .slice none 0 0, .slice none 0 0] 73 :: H)) := ⟨(Mem.allocAt M hg2 _ _).swap2⟩
 clear M
 go_enter Try.func90, Try.ntmps90
 go_upto_region 1 with fail
 rw [← hg2]
 generalize hW1 : W.alloc (.cells #[.int .i64 0, .int .i64 0, .slice none 0 0, .slice none 0 0, .slice none 0 0] 73) = W1 at M1 ⊢
 have HG2 := Aside0.mk hg2; clear hW1 hg2
 have HV := Aside0.mk (cVarAtI s a bad hs ha); have hr := rel_var s a bad; have hi := stV_in s ha bad
 have HR1 := Aside0.mk hr; clear hr
 generalize stV s a bad = r at HV HR1 hi
 obtain ⟨p, a1, b1⟩ := r
 simp only at HV HR1 hi
 have hv1 := hi.1; have ha1 := hi.2; clear hi
 go_wp2_with fail
 refine (HV.out w0 _ _ gr M1.out).mono ?_
 rintro e w1 ⟨rfl, h⟩
 have M3 : Aside0 (Mem w0 w1 (Hold.box gr #[.string s, .int .i64 (a1 : Int), .bool b1] 120 :: Hold.box g2 #[.int .i64 0, .int .i64 0, .slice none 0 0, .slice none 0 0, .slice none 0 0] 73 :: H)) := ⟨h⟩
 clear h HV M1
 obtain ⟨g3, hg3⟩ : ∃ g3, g3 = w1.heap.size := ⟨_, rfl⟩
 have M4 : Aside0 (Mem w0 (w1.alloc (.cells #[.int .i64 p, .int .i64 0, .slice none 0 0, .slice none 0 0, .slice none 0 0] 73)) (Hold.box gr #[.string s, .int .i64 (a1 : Int), .bool b1] 120 :: Hold.box g3 #[.int .i64 p, .int .i64 0, .slice none 0 0, .slice none 0 0, .slice none 0 0] 73 :: Hold.box g2 #[.int .i64 0, .int .i64 0, .slice none 0 0, .slice none 0 0, .slice none 0 0] 73 :: H)) := ⟨(M3.out.allocAt hg3 _ _).swap2⟩
 go_upto_region 2 with fail
 rw [← hg3]
 generalize hW4 : w1.alloc (.cells #[.int .i64 p, .int .i64 0, .slice none 0 0, .slice none 0 0, .slice none 0 0] 73) = W4 at M4 ⊢
 clear hW4 hg3 M3
 have HV := Aside0.mk (cVarAtI s a1 b1 hs ha1); have hr := rel_var s a1 b1; have hi := stV_in s ha1 b1
 have HR2 := Aside0.mk hr; clear hr
 generalize stV s a1 b1 = r at HV HR2 hi
 obtain ⟨r, a2, b2⟩ := r
 simp only at HV HR2 hi
 have hv2 := hi.1; have ha2 := hi.2; clear hi
 go_wp2_with fail
 refine (HV.out w0 _ _ gr M4.out).mono ?_
 rintro e w2 ⟨rfl, h⟩
 have M5 : Aside0 (Mem w0 w2 (Hold.box gr #[.string s, .int .i64 (a2 : Int), .bool b2] 120 :: Hold.box g3 #[.int .i64 p, .int .i64 0, .slice none 0 0, .slice none 0 0, .slice none 0 0] 73 :: Hold.box g2 #[.int .i64 0, .int .i64 0, .slice none 0 0, .slice none 0 0, .slice none 0 0] 73 :: H)) := ⟨h⟩
 clear h HV M4
 have z3 := M5.out.box (.tail _ (.head _)); have f3 := M5.out.free (.tail _ (.head _))
 have M6 : Aside0 (Mem w0 (w2.setCell ⟨g3, 1, none⟩ (.int .i64 r)) (Hold.box gr #[.string s, .int .i64 (a2 : Int), .bool b2] 120 :: Hold.box g3 #[.int .i64 p, .int .i64 r, .slice none 0 0, .slice none 0 0, .slice none 0 0] 73 :: Hold.box g2 #[.int .i64 0, .int .i64 0, .slice none 0 0, .slice none 0 0, .slice none 0 0] 73 :: H)) := ⟨Mem.set (A := [_]) M5.out 1 (.int .i64 r) rfl⟩
 clear M5
 go_upto_region 3 with fail
 clear z3 f3
 generalize hW6 : w2.setCell ⟨g3, 1, none⟩ (.int .i64 r) = W6 at M6 ⊢
 clear hW6
 have HV := Aside0.mk (cManyI s a2 b2 20 hs ha2); have hr := rel_var s a2 b2; have hi := stV_in s ha2 b2
 have HR3 := Aside0.mk hr; clear hr
 unfold stM at HV
 generalize stV s a2 b2 = r at HV HR3 hi
 obtain ⟨n0v, a3, b3v⟩ := r
 simp only at HV HR3 hi
 have hv3 := hi.1; have ha3 := hi.2; clear hi
 obtain ⟨n0, b3, hmany, HM3⟩ : ∃ (n0 : Int) (b3 : Bool), (if n0v > 20 then ((0 : Int), a3, true) else (n0v, a3, b3v)) = (n0, a3, b3) ∧ Aside0 ((n0v > 20 ∧ n0 = 0 ∧ b3 = true) ∨ (¬ n0v > 20 ∧ n0 = n0v ∧ b3 = b3v)) := by
  by_cases hm : n0v > 20
  ·exact ⟨0, true, if_pos hm, ⟨.inl ⟨hm, rfl, rfl⟩⟩⟩
  ·exact ⟨n0v, b3v, if_neg hm, ⟨.inr ⟨hm, rfl, rfl⟩⟩⟩
 rw [hmany] at HV
 simp only at HV
 clear hmany
 go_wp2_with fail
 refine (HV.out w0 _ _ gr M6.out).mono ?_
 rintro e w3 ⟨rfl, h⟩
 have M7_0 : Aside0 (Mem w0 w3 (Hold.box gr #[.string s, .int .i64 (a3 : Int), .bool b3] 120 :: Hold.box g3 #[.int .i64 p, .int .i64 r, .slice none 0 0, .slice none 0 0, .slice none 0 0] 73 :: Hold.box g2 #[.int .i64 0, .int .i64 0, .slice none 0 0, .slice none 0 0, .slice none 0 0] 73 :: H)) := ⟨h⟩
 clear h HV M6
 have hnn : 0 ≤ n0 ∧ n0 ≤ 20 := by rcases HM3.out with h | h <;> omega
 have HF0 := Aside0.mk (show (g3 + 1 ≤ w3.heap.size ∧ g2 + 1 ≤ w3.heap.size) ∧ True from ⟨⟨(M7_0.out.fits _ (.tail _ (.head _))).2, (M7_0.out.fits _ (.tail _ (.tail _ (.head _)))).2⟩, trivial⟩)
 have M8 : Aside0 (Mem w0 w3 (Hold.box gr #[.string s, .int .i64 (a3 : Int), .bool b3] 120 :: Hold.val (Kd.slice 105 kCap) w3.heap.size w3.heap.size [] [.slice none 0 0] :: Hold.box g3 #[.int .i64 p, .int .i64 r, .slice none 0 0, .slice none 0 0, .slice none 0 0] 73 :: Hold.box g2 #[.int .i64 0, .int .i64 0, .slice none 0 0, .slice none 0 0, .slice none 0 0] 73 :: H)) := ⟨(M7_0.out.pushR (Below.refl _ _) (Kd.R_nil kCap 105 _ w3.heap.size (fun _ => True))).swap2⟩
 obtain ⟨lo0, hlo⟩ : ∃ lo : Nat, lo = w3.heap.size := ⟨_, rfl⟩
 rw [← hlo] at M8 HF0
 clear hlo M7_0
 go_upto_region 4 with fail
 go_loopw [16] (fun v wx => ∃ (k aL0 hi0 : Nat) (bL0 : Bool) (l0 : List Cap) (X0 : Option Addr) (Y0 : Nat), v = .int .i64 k ∧ (k : Int) ≤ n0 ∧ k ≤ 1000 ∧ aL0 ≤ s.size ∧ lo0 ≤ hi0 ∧ Aside0 (RInv No (pcap s) a3 b3 k l0 aL0 bL0) ∧ Aside0 (Mem w0 wx (Hold.box gr #[.string s, .int .i64 (aL0 : Int), .bool bL0] 120 :: Hold.val (Kd.slice 105 kCap) lo0 hi0 l0 [.slice X0 l0.length Y0] :: Hold.box g3 #[.int .i64 p, .int .i64 r, .slice X0 l0.length Y0, .slice none 0 0, .slice none 0 0] 73 :: Hold.box g2 #[.int .i64 0, .int .i64 0, .slice none 0 0, .slice none 0 0, .slice none 0 0] 73 :: H))) (fun v _ => 1001 - (intOf v).toNat)
 case atStart => exact ⟨0, a3, lo0, b3, [], none, 0, rfl, by omega, by omega, ha3, Nat.le_refl _, ⟨RInv.start _ _ _ _⟩, M8⟩
 case round =>
 clear M8
 obtain ⟨k, aL0, hi0, bL0, l0, X0, Y0, rfl, hkn, hk1000, haL0, hhi0, HJ, M0z⟩ := hrel
 have hll := HJ.out.1
 by_cases hc : (k : Int) < n0
 ·have hk2 : k < 1000 := by omega
  have hkn2 := hc
  have HV := Aside0.mk (cOneI s aL0 bL0 hs haL0); have hr := rel_one s aL0 bL0; have hi0 := stO_in s haL0 bL0
  have HR4 := Aside0.mk hr; clear hr
  generalize stO s aL0 bL0 = r at HV HR4 hi0
  obtain ⟨v0, a4, b4⟩ := r
  simp only at HV HR4 hi0
  have hv4 := hi0.1; have ha4 := hi0.2; clear hi0
  go_wp2_with fail
  refine (HV.out w0 _ _ gr M0z.out).mono ?_
  rintro e w4 ⟨rfl, h⟩
  have MR0 : Aside0 (Mem w0 w4 (Hold.box gr #[.string s, .int .i64 (a4 : Int), .bool b4] 120 :: Hold.val (Kd.slice 105 kCap) lo0 hi0 l0 [.slice X0 l0.length Y0] :: Hold.box g3 #[.int .i64 p, .int .i64 r, .slice X0 l0.length Y0, .slice none 0 0, .slice none 0 0] 73 :: Hold.box g2 #[.int .i64 0, .int .i64 0, .slice none 0 0, .slice none 0 0, .slice none 0 0] 73 :: H)) := ⟨h⟩
  clear h HV M0z
  obtain ⟨vb, hvb⟩ : ∃ vb, vb = decide (v0 = 1) := ⟨_, rfl⟩
  have HVB := Aside0.mk hvb
  have q1 : (v0 == 1) = vb := by rw [hvb]; by_cases h : v0 = 1 <;> simp [h]
  have q2 : decide (v0 = 1) = vb := hvb.symm
  clear hvb
  obtain ⟨ge, hge⟩ : ∃ ge, ge = w4.heap.size := ⟨_, rfl⟩
  have ME0 : Aside0 (Mem w0 (w4.alloc (.cells #[.bool vb, .int .i64 0] 105)) (Hold.box gr #[.string s, .int .i64 (a4 : Int), .bool b4] 120 :: Hold.box ge #[.bool vb, .int .i64 0] 105 :: Hold.val (Kd.slice 105 kCap) lo0 hi0 l0 [.slice X0 l0.length Y0] :: Hold.box g3 #[.int .i64 p, .int .i64 r, .slice X0 l0.length Y0, .slice none 0 0, .slice none 0 0] 73 :: Hold.box g2 #[.int .i64 0, .int .i64 0, .slice none 0 0, .slice none 0 0, .slice none 0 0] 73 :: H)) := ⟨(MR0.out.allocAt hge _ _).swap2⟩
  go_upto_region 7 with fail
  rw [← hge]
  generalize hWe : w4.alloc (.cells #[.bool vb, .int .i64 0] 105) = We at ME0 ⊢
  clear hWe hge MR0
  clear q1 q2
  have HV := Aside0.mk (cVarAtI s a4 b4 hs ha4); have hr := rel_var s a4 b4; have hi0 := stV_in s ha4 b4
  have HR5 := Aside0.mk hr; clear hr
  generalize stV s a4 b4 = r at HV HR5 hi0
  obtain ⟨v1, a5, b5⟩ := r
  simp only at HV HR5 hi0
  have hv5 := hi0.1; have ha5 := hi0.2; clear hi0
  go_wp2_with fail
  refine (HV.out w0 _ _ gr ME0.out).mono ?_
  rintro e w5 ⟨rfl, h⟩
  have MR1 : Aside0 (Mem w0 w5 (Hold.box gr #[.string s, .int .i64 (a5 : Int), .bool b5] 120 :: Hold.box ge #[.bool vb, .int .i64 0] 105 :: Hold.val (Kd.slice 105 kCap) lo0 hi0 l0 [.slice X0 l0.length Y0] :: Hold.box g3 #[.int .i64 p, .int .i64 r, .slice X0 l0.length Y0, .slice none 0 0, .slice none 0 0] 73 :: Hold.box g2 #[.int .i64 0, .int .i64 0, .slice none 0 0, .slice none 0 0, .slice none 0 0] 73 :: H)) := ⟨h⟩
  clear h HV ME0
  have ze := MR1.out.box (.tail _ (.head _)); have fe := MR1.out.free (.tail _ (.head _))
  have MS1 : Aside0 (Mem w0 (w5.setCell ⟨ge, 1, none⟩ (.int .i64 v1)) (Hold.box gr #[.string s, .int .i64 (a5 : Int), .bool b5] 120 :: Hold.box ge #[.bool vb, .int .i64 v1] 105 :: Hold.val (Kd.slice 105 kCap) lo0 hi0 l0 [.slice X0 l0.length Y0] :: Hold.box g3 #[.int .i64 p, .int .i64 r, .slice X0 l0.length Y0, .slice none 0 0, .slice none 0 0] 73 :: Hold.box g2 #[.int .i64 0, .int .i64 0, .slice none 0 0, .slice none 0 0, .slice none 0 0] 73 :: H)) := ⟨Mem.set (A := [_]) MR1.out 1 (.int .i64 v1) rfl⟩
  clear MR1
  go_upto_region 8 with fail
  clear ze fe
  generalize hWs : w5.setCell ⟨ge, 1, none⟩ (.int .i64 v1) = Ws1 at MS1 ⊢
  clear hWs
  have HX := Aside0.mk (show Rel No (pcap s) aL0 bL0 (⟨vb, v1⟩ : Cap) a5 b5 from Rel.seq HR4.out (Rel.seq HR5.out (by rw [← HVB.out]; exact rel_ret _ _ _ _) (fun h => h.elim)) (fun h => h.elim))
  have ze := MS1.out.box (.tail _ (.head _)); have zg := MS1.out.box (.tail _ (.tail _ (.tail _ (.head _)))); have fg := MS1.out.free (.tail _ (.tail _ (.tail _ (.head _))))
  have MN : Aside0 (Mem w0 Ws1 (Hold.box gr #[.string s, .int .i64 (a5 : Int), .bool b5] 120 :: Hold.val (Kd.slice 105 kCap) lo0 hi0 l0 [.slice X0 l0.length Y0] :: Hold.box g3 #[.int .i64 p, .int .i64 r, .slice X0 l0.length Y0, .slice none 0 0, .slice none 0 0] 73 :: Hold.box g2 #[.int .i64 0, .int .i64 0, .slice none 0 0, .slice none 0 0, .slice none 0 0] 73 :: H)) := ⟨MS1.out.mid (A := [_])⟩
  clear MS1
  have hlw : lo0 ≤ Ws1.heap.size := Nat.le_trans hhi0 (MN.out.fits _ (.tail _ (.head _))).2
  go_wp2_with (((with_reducible refine gate_builtin (b := .append) (xs := #[.tmp 27, .tmp 29]) rfl ?_); at_builtin; refine Aside0.out ?_))
  refine ⟨?_⟩
  refine Kd.R_append kCap (w0 := Ws1) lo0 rfl (.tmp 27) (.tmp 29) 69 105 (.agg #[.bool false, .int .i64 0]) 16 rfl Try.underlying69 (by kernel_rfl) rfl (by decide) (by decide) (.slice X0 l0.length Y0) l0 (⟨vb, v1⟩ : Cap) [.bool vb, .int .i64 v1] (fun k => lo0 ≤ k) (fun _ => False) ?aV ?aX (kCap_mkM _ _ _ _) (fun _ h => h.elim) (fun k hk => Nat.le_trans hlw hk) (Kd.R_mono (MN.out.row (.tail _ (.head _))) (fun k hk => hk.1)) (Below.refl _ _) hlw (by omega) ?_
  (case aV => first | rfl | (go_simp; done) | (go_simp; rfl))
  (case aX => first | rfl | (go_simp; done) | (go_simp; rfl))
  intro v9 w9 ho hb9 hg9 hat9; clear hg9 hat9
  obtain ⟨A9, y9, hv9⟩ := Kd.R_slice ho; subst hv9
  obtain ⟨ln, hln⟩ : ∃ ln, ln = l0 ++ [(⟨vb, v1⟩ : Cap)] := ⟨_, rfl⟩
  have HLN := Aside0.mk hln
  rw [← hln] at ho ⊢
  clear hln
  have MG : Aside0 (Mem w0 w9 (Hold.box gr #[.string s, .int .i64 (a5 : Int), .bool b5] 120 :: Hold.val (Kd.slice 105 kCap) lo0 w9.heap.size ln [.slice A9 ln.length y9] :: Hold.box g3 #[.int .i64 p, .int .i64 r, .slice X0 l0.length Y0, .slice none 0 0, .slice none 0 0] 73 :: Hold.box g2 #[.int .i64 0, .int .i64 0, .slice none 0 0, .slice none 0 0, .slice none 0 0] 73 :: H)) := ⟨Mem.growAt (A := [_]) MN.out (fun x hx => ?mgo) hb9 ho⟩
  (case mgo =>
   have h1 := HH.out; have h2 := HF0.out
   simp only [List.mem_append, List.mem_cons, List.not_mem_nil, or_false] at hx
   rcases hx with rfl | rfl | rfl | hx
   ·simp only [Hold.box]; omega
   ·simp only [Hold.box]; omega
   ·simp only [Hold.box]; omega
   ·have := h1.2 x hx; omega)
  have hh9 : lo0 ≤ w9.heap.size := Nat.le_trans hlw hb9.size
  clear ho hb9 MN ze zg fg
  have zg := MG.out.box (.tail _ (.tail _ (.head _))); have fg := MG.out.free (.tail _ (.tail _ (.head _)))
  have MZ : Aside0 (Mem w0 (w9.setCell ⟨g3, 2, none⟩ (.slice A9 ln.length y9)) (Hold.box gr #[.string s, .int .i64 (a5 : Int), .bool b5] 120 :: Hold.val (Kd.slice 105 kCap) lo0 w9.heap.size ln [.slice A9 ln.length y9] :: Hold.box g3 #[.int .i64 p, .int .i64 r, .slice A9 ln.length y9, .slice none 0 0, .slice none 0 0] 73 :: Hold.box g2 #[.int .i64 0, .int .i64 0, .slice none 0 0, .slice none 0 0, .slice none 0 0] 73 :: H)) := ⟨Mem.set (A := [_, _]) MG.out 2 (.slice A9 ln.length y9) rfl⟩
  clear MG
  have HJ2 := Aside0.mk (show RInv No (pcap s) a3 b3 (k + 1) ln a5 b5 from by rw [HLN.out]; exact HJ.out.step HX.out)
  have hszz : (w9.setCell ⟨g3, 2, none⟩ (.slice A9 ln.length y9)).heap.size = w9.heap.size := by simp
  go_wp2
  go_roundw
  (case measure => simp [intOf]; omega)
  (case rel => first | exact ⟨k + 1, a5, w9.heap.size, b5, ln, A9, y9, by go_num, by omega, by omega, ha5, hh9, HJ2, MZ⟩ | ((repeat apply Exists.intro); exact ⟨⟨k + 1, a5, w9.heap.size, b5, ln, A9, y9, by go_num, by omega, by omega, ha5, hh9, HJ2, MZ⟩, rfl⟩))
 have HL0 : Aside0 (Rel (fun l0 => (l0.length : Int) > 20) (plist (pcap s) 20 s) a2 b2 l0 aL0 bL0) := ⟨by
  rcases HM3.out with ⟨hm, hn0, hbt⟩ | ⟨hm, hn0, hbt⟩
  ·refine rel_many _ HR3.out hm (fun e => ?_) (.inl ?_)
   ·have h := HJ.out
    rw [hbt] at h
    exact h.stays
   ·have h := HJ.out
    rw [hbt] at h
    exact h.stays
  ·have hkk : k = n0v.toNat := by omega
   subst hkk
   have h := HJ.out
   rw [hbt] at h
   exact Rel.weak (RInv.all HR3.out (by omega) h) (fun l0 h => by obtain ⟨x, _, h⟩ := h; exact h.elim)⟩
 have hcc : ¬ (k : Int) < n0 := hc; have hle : k = n0.toNat := by omega
 clear HJ hkn hk1000 hll
 
 go_upto_region 10 with fail
 have HV := Aside0.mk (cManyI s aL0 bL0 300 hs haL0); have hr := rel_var s aL0 bL0; have hi := stV_in s haL0 bL0
 have HR6 := Aside0.mk hr; clear hr
 unfold stM at HV
 generalize stV s aL0 bL0 = r at HV HR6 hi
 obtain ⟨n1v, a6, b6v⟩ := r
 simp only at HV HR6 hi
 have hv6 := hi.1; have ha6 := hi.2; clear hi
 obtain ⟨n1, b6, hmany, HM6⟩ : ∃ (n1 : Int) (b6 : Bool), (if n1v > 300 then ((0 : Int), a6, true) else (n1v, a6, b6v)) = (n1, a6, b6) ∧ Aside0 ((n1v > 300 ∧ n1 = 0 ∧ b6 = true) ∨ (¬ n1v > 300 ∧ n1 = n1v ∧ b6 = b6v)) := by
  by_cases hm : n1v > 300
  ·exact ⟨0, true, if_pos hm, ⟨.inl ⟨hm, rfl, rfl⟩⟩⟩
  ·exact ⟨n1v, b6v, if_neg hm, ⟨.inr ⟨hm, rfl, rfl⟩⟩⟩
 rw [hmany] at HV
 simp only at HV
 clear hmany
 go_wp2_with fail
 refine (HV.out w0 _ _ gr M0z.out).mono ?_
 rintro e w6 ⟨rfl, h⟩
 have M7_1 : Aside0 (Mem w0 w6 (Hold.box gr #[.string s, .int .i64 (a6 : Int), .bool b6] 120 :: Hold.val (Kd.slice 105 kCap) lo0 hi0 l0 [.slice X0 l0.length Y0] :: Hold.box g3 #[.int .i64 p, .int .i64 r, .slice X0 l0.length Y0, .slice none 0 0, .slice none 0 0] 73 :: Hold.box g2 #[.int .i64 0, .int .i64 0, .slice none 0 0, .slice none 0 0, .slice none 0 0] 73 :: H)) := ⟨h⟩
 clear h HV M0z
 have hnn : 0 ≤ n1 ∧ n1 ≤ 300 := by rcases HM6.out with h | h <;> omega
 have HF1 := Aside0.mk (show (g3 + 1 ≤ w6.heap.size ∧ g2 + 1 ≤ w6.heap.size) ∧ hi0 ≤ w6.heap.size from ⟨⟨(M7_1.out.fits _ (.tail _ (.tail _ (.head _)))).2, (M7_1.out.fits _ (.tail _ (.tail _ (.tail _ (.head _))))).2⟩, (M7_1.out.fits _ (.tail _ (.head _))).2⟩)
 have M8 : Aside0 (Mem w0 w6 (Hold.box gr #[.string s, .int .i64 (a6 : Int), .bool b6] 120 :: Hold.val (Kd.slice 76 kIns) w6.heap.size w6.heap.size [] [.slice none 0 0] :: Hold.val (Kd.slice 105 kCap) lo0 hi0 l0 [.slice X0 l0.length Y0] :: Hold.box g3 #[.int .i64 p, .int .i64 r, .slice X0 l0.length Y0, .slice none 0 0, .slice none 0 0] 73 :: Hold.box g2 #[.int .i64 0, .int .i64 0, .slice none 0 0, .slice none 0 0, .slice none 0 0] 73 :: H)) := ⟨(M7_1.out.pushR (Below.refl _ _) (Kd.R_nil kIns 76 _ w6.heap.size (fun _ => True))).swap2⟩
 obtain ⟨lo1, hlo⟩ : ∃ lo : Nat, lo = w6.heap.size := ⟨_, rfl⟩
 rw [← hlo] at M8 HF1
 clear hlo M7_1
 go_upto_region 11 with fail
 go_loopw [35] (fun v wx => ∃ (k aL1 hi1 : Nat) (bL1 : Bool) (l1 : List Ins) (X1 : Option Addr) (Y1 : Nat), v = .int .i64 k ∧ (k : Int) ≤ n1 ∧ k ≤ 1000 ∧ aL1 ≤ s.size ∧ lo1 ≤ hi1 ∧ Aside0 (RInv No (pins s) a6 b6 k l1 aL1 bL1) ∧ Aside0 (Mem w0 wx (Hold.box gr #[.string s, .int .i64 (aL1 : Int), .bool bL1] 120 :: Hold.val (Kd.slice 76 kIns) lo1 hi1 l1 [.slice X1 l1.length Y1] :: Hold.val (Kd.slice 105 kCap) lo0 hi0 l0 [.slice X0 l0.length Y0] :: Hold.box g3 #[.int .i64 p, .int .i64 r, .slice X0 l0.length Y0, .slice X1 l1.length Y1, .slice none 0 0] 73 :: Hold.box g2 #[.int .i64 0, .int .i64 0, .slice none 0 0, .slice none 0 0, .slice none 0 0] 73 :: H))) (fun v _ => 1001 - (intOf v).toNat)
 case atStart => exact ⟨0, a6, lo1, b6, [], none, 0, rfl, by omega, by omega, ha6, Nat.le_refl _, ⟨RInv.start _ _ _ _⟩, M8⟩
 case round =>
 clear M8
 obtain ⟨k, aL1, hi1, bL1, l1, X1, Y1, rfl, hkn, hk1000, haL1, hhi1, HJ, M1z⟩ := hrel
 have hll := HJ.out.1
 by_cases hc : (k : Int) < n1
 ·have hk2 : k < 1000 := by omega
  have hkn2 := hc
  have HV := Aside0.mk (cOneI s aL1 bL1 hs haL1); have hr := rel_one s aL1 bL1; have hi1 := stO_in s haL1 bL1
  have HR7 := Aside0.mk hr; clear hr
  generalize stO s aL1 bL1 = r at HV HR7 hi1
  obtain ⟨v0, a7, b7⟩ := r
  simp only at HV HR7 hi1
  have hv7 := hi1.1; have ha7 := hi1.2; clear hi1
  go_wp2_with fail
  refine (HV.out w0 _ _ gr M1z.out).mono ?_
  rintro e w7 ⟨rfl, h⟩
  have MR0 : Aside0 (Mem w0 w7 (Hold.box gr #[.string s, .int .i64 (a7 : Int), .bool b7] 120 :: Hold.val (Kd.slice 76 kIns) lo1 hi1 l1 [.slice X1 l1.length Y1] :: Hold.val (Kd.slice 105 kCap) lo0 hi0 l0 [.slice X0 l0.length Y0] :: Hold.box g3 #[.int .i64 p, .int .i64 r, .slice X0 l0.length Y0, .slice X1 l1.length Y1, .slice none 0 0] 73 :: Hold.box g2 #[.int .i64 0, .int .i64 0, .slice none 0 0, .slice none 0 0, .slice none 0 0] 73 :: H)) := ⟨h⟩
  clear h HV M1z
  obtain ⟨ge, hge⟩ : ∃ ge, ge = w7.heap.size := ⟨_, rfl⟩
  have ME0 : Aside0 (Mem w0 (w7.alloc (.cells #[.int .i64 v0, .int .i64 0, .int .i64 0] 76)) (Hold.box gr #[.string s, .int .i64 (a7 : Int), .bool b7] 120 :: Hold.box ge #[.int .i64 v0, .int .i64 0, .int .i64 0] 76 :: Hold.val (Kd.slice 76 kIns) lo1 hi1 l1 [.slice X1 l1.length Y1] :: Hold.val (Kd.slice 105 kCap) lo0 hi0 l0 [.slice X0 l0.length Y0] :: Hold.box g3 #[.int .i64 p, .int .i64 r, .slice X0 l0.length Y0, .slice X1 l1.length Y1, .slice none 0 0] 73 :: Hold.box g2 #[.int .i64 0, .int .i64 0, .slice none 0 0, .slice none 0 0, .slice none 0 0] 73 :: H)) := ⟨(MR0.out.allocAt hge _ _).swap2⟩
  go_upto_region 13 with fail
  rw [← hge]
  generalize hWe : w7.alloc (.cells #[.int .i64 v0, .int .i64 0, .int .i64 0] 76) = We at ME0 ⊢
  clear hWe hge MR0
  have HV := Aside0.mk (cVarAtI s a7 b7 hs ha7); have hr := rel_var s a7 b7; have hi1 := stV_in s ha7 b7
  have HR8 := Aside0.mk hr; clear hr
  generalize stV s a7 b7 = r at HV HR8 hi1
  obtain ⟨v1, a8, b8⟩ := r
  simp only at HV HR8 hi1
  have hv8 := hi1.1; have ha8 := hi1.2; clear hi1
  go_wp2_with fail
  refine (HV.out w0 _ _ gr ME0.out).mono ?_
  rintro e w8 ⟨rfl, h⟩
  have MR1 : Aside0 (Mem w0 w8 (Hold.box gr #[.string s, .int .i64 (a8 : Int), .bool b8] 120 :: Hold.box ge #[.int .i64 v0, .int .i64 0, .int .i64 0] 76 :: Hold.val (Kd.slice 76 kIns) lo1 hi1 l1 [.slice X1 l1.length Y1] :: Hold.val (Kd.slice 105 kCap) lo0 hi0 l0 [.slice X0 l0.length Y0] :: Hold.box g3 #[.int .i64 p, .int .i64 r, .slice X0 l0.length Y0, .slice X1 l1.length Y1, .slice none 0 0] 73 :: Hold.box g2 #[.int .i64 0, .int .i64 0, .slice none 0 0, .slice none 0 0, .slice none 0 0] 73 :: H)) := ⟨h⟩
  clear h HV ME0
  have ze := MR1.out.box (.tail _ (.head _)); have fe := MR1.out.free (.tail _ (.head _))
  have MS1 : Aside0 (Mem w0 (w8.setCell ⟨ge, 1, none⟩ (.int .i64 v1)) (Hold.box gr #[.string s, .int .i64 (a8 : Int), .bool b8] 120 :: Hold.box ge #[.int .i64 v0, .int .i64 v1, .int .i64 0] 76 :: Hold.val (Kd.slice 76 kIns) lo1 hi1 l1 [.slice X1 l1.length Y1] :: Hold.val (Kd.slice 105 kCap) lo0 hi0 l0 [.slice X0 l0.length Y0] :: Hold.box g3 #[.int .i64 p, .int .i64 r, .slice X0 l0.length Y0, .slice X1 l1.length Y1, .slice none 0 0] 73 :: Hold.box g2 #[.int .i64 0, .int .i64 0, .slice none 0 0, .slice none 0 0, .slice none 0 0] 73 :: H)) := ⟨Mem.set (A := [_]) MR1.out 1 (.int .i64 v1) rfl⟩
  clear MR1
  go_upto_region 14 with fail
  clear ze fe
  generalize hWs : w8.setCell ⟨ge, 1, none⟩ (.int .i64 v1) = Ws1 at MS1 ⊢
  clear hWs
  have HV := Aside0.mk (cVarAtI s a8 b8 hs ha8); have hr := rel_var s a8 b8; have hi1 := stV_in s ha8 b8
  have HR9 := Aside0.mk hr; clear hr
  generalize stV s a8 b8 = r at HV HR9 hi1
  obtain ⟨v2, a9, b9⟩ := r
  simp only at HV HR9 hi1
  have hv9 := hi1.1; have ha9 := hi1.2; clear hi1
  go_wp2_with fail
  refine (HV.out w0 _ _ gr MS1.out).mono ?_
  rintro e w9 ⟨rfl, h⟩
  have MR2 : Aside0 (Mem w0 w9 (Hold.box gr #[.string s, .int .i64 (a9 : Int), .bool b9] 120 :: Hold.box ge #[.int .i64 v0, .int .i64 v1, .int .i64 0] 76 :: Hold.val (Kd.slice 76 kIns) lo1 hi1 l1 [.slice X1 l1.length Y1] :: Hold.val (Kd.slice 105 kCap) lo0 hi0 l0 [.slice X0 l0.length Y0] :: Hold.box g3 #[.int .i64 p, .int .i64 r, .slice X0 l0.length Y0, .slice X1 l1.length Y1, .slice none 0 0] 73 :: Hold.box g2 #[.int .i64 0, .int .i64 0, .slice none 0 0, .slice none 0 0, .slice none 0 0] 73 :: H)) := ⟨h⟩
  clear h HV MS1
  have ze := MR2.out.box (.tail _ (.head _)); have fe := MR2.out.free (.tail _ (.head _))
  have MS2 : Aside0 (Mem w0 (w9.setCell ⟨ge, 2, none⟩ (.int .i64 v2)) (Hold.box gr #[.string s, .int .i64 (a9 : Int), .bool b9] 120 :: Hold.box ge #[.int .i64 v0, .int .i64 v1, .int .i64 v2] 76 :: Hold.val (Kd.slice 76 kIns) lo1 hi1 l1 [.slice X1 l1.length Y1] :: Hold.val (Kd.slice 105 kCap) lo0 hi0 l0 [.slice X0 l0.length Y0] :: Hold.box g3 #[.int .i64 p, .int .i64 r, .slice X0 l0.length Y0, .slice X1 l1.length Y1, .slice none 0 0] 73 :: Hold.box g2 #[.int .i64 0, .int .i64 0, .slice none 0 0, .slice none 0 0, .slice none 0 0] 73 :: H)) := ⟨Mem.set (A := [_]) MR2.out 2 (.int .i64 v2) rfl⟩
  clear MR2
  go_upto_region 15 with fail
  clear ze fe
  generalize hWs : w9.setCell ⟨ge, 2, none⟩ (.int .i64 v2) = Ws2 at MS2 ⊢
  clear hWs
  have HX := Aside0.mk (show Rel No (pins s) aL1 bL1 (⟨v0, v1, v2⟩ : Ins) a9 b9 from Rel.seq HR7.out (Rel.seq HR8.out (Rel.seq HR9.out (rel_ret _ _ _ _) (fun h => h.elim)) (fun h => h.elim)) (fun h => h.elim))
  have ze := MS2.out.box (.tail _ (.head _)); have zg := MS2.out.box (.tail _ (.tail _ (.tail _ (.tail _ (.head _))))); have fg := MS2.out.free (.tail _ (.tail _ (.tail _ (.tail _ (.head _)))))
  have MN : Aside0 (Mem w0 Ws2 (Hold.box gr #[.string s, .int .i64 (a9 : Int), .bool b9] 120 :: Hold.val (Kd.slice 76 kIns) lo1 hi1 l1 [.slice X1 l1.length Y1] :: Hold.val (Kd.slice 105 kCap) lo0 hi0 l0 [.slice X0 l0.length Y0] :: Hold.box g3 #[.int .i64 p, .int .i64 r, .slice X0 l0.length Y0, .slice X1 l1.length Y1, .slice none 0 0] 73 :: Hold.box g2 #[.int .i64 0, .int .i64 0, .slice none 0 0, .slice none 0 0, .slice none 0 0] 73 :: H)) := ⟨MS2.out.mid (A := [_])⟩
  clear MS2
  have hlw : lo1 ≤ Ws2.heap.size := Nat.le_trans hhi1 (MN.out.fits _ (.tail _ (.head _))).2
  go_wp2_with (((with_reducible refine gate_builtin (b := .append) (xs := #[.tmp 47, .tmp 49]) rfl ?_); at_builtin; refine Aside0.out ?_))
  refine ⟨?_⟩
  refine Kd.R_append kIns (w0 := Ws2) lo1 rfl (.tmp 47) (.tmp 49) 70 76 (.agg #[.int .i64 0, .int .i64 0, .int .i64 0]) 24 rfl Try.underlying70 (by kernel_rfl) rfl (by decide) (by decide) (.slice X1 l1.length Y1) l1 (⟨v0, v1, v2⟩ : Ins) [.int .i64 v0, .int .i64 v1, .int .i64 v2] (fun k => lo1 ≤ k) (fun _ => False) ?aV ?aX (kIns_mkM _ _ _ _) (fun _ h => h.elim) (fun k hk => Nat.le_trans hlw hk) (Kd.R_mono (MN.out.row (.tail _ (.head _))) (fun k hk => hk.1)) (Below.refl _ _) hlw (by omega) ?_
  (case aV => first | rfl | (go_simp; done) | (go_simp; rfl))
  (case aX => first | rfl | (go_simp; done) | (go_simp; rfl))
  intro v9 w9 ho hb9 hg9 hat9; clear hg9 hat9
  obtain ⟨A9, y9, hv9⟩ := Kd.R_slice ho; subst hv9
  obtain ⟨ln, hln⟩ : ∃ ln, ln = l1 ++ [(⟨v0, v1, v2⟩ : Ins)] := ⟨_, rfl⟩
  have HLN := Aside0.mk hln
  rw [← hln] at ho ⊢
  clear hln
  have MG : Aside0 (Mem w0 w9 (Hold.box gr #[.string s, .int .i64 (a9 : Int), .bool b9] 120 :: Hold.val (Kd.slice 76 kIns) lo1 w9.heap.size ln [.slice A9 ln.length y9] :: Hold.val (Kd.slice 105 kCap) lo0 hi0 l0 [.slice X0 l0.length Y0] :: Hold.box g3 #[.int .i64 p, .int .i64 r, .slice X0 l0.length Y0, .slice X1 l1.length Y1, .slice none 0 0] 73 :: Hold.box g2 #[.int .i64 0, .int .i64 0, .slice none 0 0, .slice none 0 0, .slice none 0 0] 73 :: H)) := ⟨Mem.growAt (A := [_]) MN.out (fun x hx => ?mgo) hb9 ho⟩
  (case mgo =>
   have h1 := HH.out; have h2 := HF1.out
   simp only [List.mem_append, List.mem_cons, List.not_mem_nil, or_false] at hx
   rcases hx with rfl | rfl | rfl | rfl | hx
   ·simp only [Hold.box]; omega
   ·simp only [Hold.val]; omega
   ·simp only [Hold.box]; omega
   ·simp only [Hold.box]; omega
   ·have := h1.2 x hx; omega)
  have hh9 : lo1 ≤ w9.heap.size := Nat.le_trans hlw hb9.size
  clear ho hb9 MN ze zg fg
  have zg := MG.out.box (.tail _ (.tail _ (.tail _ (.head _)))); have fg := MG.out.free (.tail _ (.tail _ (.tail _ (.head _))))
  have MZ : Aside0 (Mem w0 (w9.setCell ⟨g3, 3, none⟩ (.slice A9 ln.length y9)) (Hold.box gr #[.string s, .int .i64 (a9 : Int), .bool b9] 120 :: Hold.val (Kd.slice 76 kIns) lo1 w9.heap.size ln [.slice A9 ln.length y9] :: Hold.val (Kd.slice 105 kCap) lo0 hi0 l0 [.slice X0 l0.length Y0] :: Hold.box g3 #[.int .i64 p, .int .i64 r, .slice X0 l0.length Y0, .slice A9 ln.length y9, .slice none 0 0] 73 :: Hold.box g2 #[.int .i64 0, .int .i64 0, .slice none 0 0, .slice none 0 0, .slice none 0 0] 73 :: H)) := ⟨Mem.set (A := [_, _, _]) MG.out 3 (.slice A9 ln.length y9) rfl⟩
  clear MG
  have HJ2 := Aside0.mk (show RInv No (pins s) a6 b6 (k + 1) ln a9 b9 from by rw [HLN.out]; exact HJ.out.step HX.out)
  have hszz : (w9.setCell ⟨g3, 3, none⟩ (.slice A9 ln.length y9)).heap.size = w9.heap.size := by simp
  go_wp2
  go_roundw
  (case measure => simp [intOf]; omega)
  (case rel => first | exact ⟨k + 1, a9, w9.heap.size, b9, ln, A9, y9, by go_num, by omega, by omega, ha9, hh9, HJ2, MZ⟩ | ((repeat apply Exists.intro); exact ⟨⟨k + 1, a9, w9.heap.size, b9, ln, A9, y9, by go_num, by omega, by omega, ha9, hh9, HJ2, MZ⟩, rfl⟩))
 have HL1 : Aside0 (Rel (fun l1 => (l1.length : Int) > 300) (plist (pins s) 300 s) aL0 bL0 l1 aL1 bL1) := ⟨by
  rcases HM6.out with ⟨hm, hn0, hbt⟩ | ⟨hm, hn0, hbt⟩
  ·refine rel_many _ HR6.out hm (fun e => ?_) (.inl ?_)
   ·have h := HJ.out
    rw [hbt] at h
    exact h.stays
   ·have h := HJ.out
    rw [hbt] at h
    exact h.stays
  ·have hkk : k = n1v.toNat := by omega
   subst hkk
   have h := HJ.out
   rw [hbt] at h
   exact Rel.weak (RInv.all HR6.out (by omega) h) (fun l1 h => by obtain ⟨x, _, h⟩ := h; exact h.elim)⟩
 have hcc : ¬ (k : Int) < n1 := hc; have hle : k = n1.toNat := by omega
 clear HJ hkn hk1000 hll
 
 go_upto_region 17 with fail
 have HV := Aside0.mk (cManyI s aL1 bL1 40 hs haL1); have hr := rel_var s aL1 bL1; have hi := stV_in s haL1 bL1
 have HR10 := Aside0.mk hr; clear hr
 unfold stM at HV
 generalize stV s aL1 bL1 = r at HV HR10 hi
 obtain ⟨n2v, a10, b10v⟩ := r
 simp only at HV HR10 hi
 have hv10 := hi.1; have ha10 := hi.2; clear hi
 obtain ⟨n2, b10, hmany, HM10⟩ : ∃ (n2 : Int) (b10 : Bool), (if n2v > 40 then ((0 : Int), a10, true) else (n2v, a10, b10v)) = (n2, a10, b10) ∧ Aside0 ((n2v > 40 ∧ n2 = 0 ∧ b10 = true) ∨ (¬ n2v > 40 ∧ n2 = n2v ∧ b10 = b10v)) := by
  by_cases hm : n2v > 40
  ·exact ⟨0, true, if_pos hm, ⟨.inl ⟨hm, rfl, rfl⟩⟩⟩
  ·exact ⟨n2v, b10v, if_neg hm, ⟨.inr ⟨hm, rfl, rfl⟩⟩⟩
 rw [hmany] at HV
 simp only at HV
 clear hmany
 go_wp2_with fail
 refine (HV.out w0 _ _ gr M1z.out).mono ?_
 rintro e w10 ⟨rfl, h⟩
 have M7_2 : Aside0 (Mem w0 w10 (Hold.box gr #[.string s, .int .i64 (a10 : Int), .bool b10] 120 :: Hold.val (Kd.slice 76 kIns) lo1 hi1 l1 [.slice X1 l1.length Y1] :: Hold.val (Kd.slice 105 kCap) lo0 hi0 l0 [.slice X0 l0.length Y0] :: Hold.box g3 #[.int .i64 p, .int .i64 r, .slice X0 l0.length Y0, .slice X1 l1.length Y1, .slice none 0 0] 73 :: Hold.box g2 #[.int .i64 0, .int .i64 0, .slice none 0 0, .slice none 0 0, .slice none 0 0] 73 :: H)) := ⟨h⟩
 clear h HV M1z
 have hnn : 0 ≤ n2 ∧ n2 ≤ 40 := by rcases HM10.out with h | h <;> omega
 have HF2 := Aside0.mk (show (g3 + 1 ≤ w10.heap.size ∧ g2 + 1 ≤ w10.heap.size) ∧ hi1 ≤ w10.heap.size ∧ hi0 ≤ w10.heap.size from ⟨⟨(M7_2.out.fits _ (.tail _ (.tail _ (.tail _ (.head _))))).2, (M7_2.out.fits _ (.tail _ (.tail _ (.tail _ (.tail _ (.head _)))))).2⟩, (M7_2.out.fits _ (.tail _ (.head _))).2, (M7_2.out.fits _ (.tail _ (.tail _ (.head _)))).2⟩)
 have M8 : Aside0 (Mem w0 w10 (Hold.box gr #[.string s, .int .i64 (a10 : Int), .bool b10] 120 :: Hold.val (Kd.slice 107 kHandler) w10.heap.size w10.heap.size [] [.slice none 0 0] :: Hold.val (Kd.slice 76 kIns) lo1 hi1 l1 [.slice X1 l1.length Y1] :: Hold.val (Kd.slice 105 kCap) lo0 hi0 l0 [.slice X0 l0.length Y0] :: Hold.box g3 #[.int .i64 p, .int .i64 r, .slice X0 l0.length Y0, .slice X1 l1.length Y1, .slice none 0 0] 73 :: Hold.box g2 #[.int .i64 0, .int .i64 0, .slice none 0 0, .slice none 0 0, .slice none 0 0] 73 :: H)) := ⟨(M7_2.out.pushR (Below.refl _ _) (Kd.R_nil kHandler 107 _ w10.heap.size (fun _ => True))).swap2⟩
 obtain ⟨lo2, hlo⟩ : ∃ lo : Nat, lo = w10.heap.size := ⟨_, rfl⟩
 rw [← hlo] at M8 HF2
 clear hlo M7_2
 go_upto_region 18 with fail
 go_loopw [55] (fun v wx => ∃ (k aL2 hi2 : Nat) (bL2 : Bool) (l2 : List Handler) (X2 : Option Addr) (Y2 : Nat), v = .int .i64 k ∧ (k : Int) ≤ n2 ∧ k ≤ 1000 ∧ aL2 ≤ s.size ∧ lo2 ≤ hi2 ∧ Aside0 (RInv No (phand s) a10 b10 k l2 aL2 bL2) ∧ Aside0 (Mem w0 wx (Hold.box gr #[.string s, .int .i64 (aL2 : Int), .bool bL2] 120 :: Hold.val (Kd.slice 107 kHandler) lo2 hi2 l2 [.slice X2 l2.length Y2] :: Hold.val (Kd.slice 76 kIns) lo1 hi1 l1 [.slice X1 l1.length Y1] :: Hold.val (Kd.slice 105 kCap) lo0 hi0 l0 [.slice X0 l0.length Y0] :: Hold.box g3 #[.int .i64 p, .int .i64 r, .slice X0 l0.length Y0, .slice X1 l1.length Y1, .slice X2 l2.length Y2] 73 :: Hold.box g2 #[.int .i64 0, .int .i64 0, .slice none 0 0, .slice none 0 0, .slice none 0 0] 73 :: H))) (fun v _ => 1001 - (intOf v).toNat)
 case atStart => exact ⟨0, a10, lo2, b10, [], none, 0, rfl, by omega, by omega, ha10, Nat.le_refl _, ⟨RInv.start _ _ _ _⟩, M8⟩
 case round =>
 clear M8
 obtain ⟨k, aL2, hi2, bL2, l2, X2, Y2, rfl, hkn, hk1000, haL2, hhi2, HJ, M2z⟩ := hrel
 have hll := HJ.out.1
 by_cases hc : (k : Int) < n2
 ·have hk2 : k < 1000 := by omega
  have hkn2 := hc
  have HV := Aside0.mk (cVarAtI s aL2 bL2 hs haL2); have hr := rel_var s aL2 bL2; have hi2 := stV_in s haL2 bL2
  have HR11 := Aside0.mk hr; clear hr
  generalize stV s aL2 bL2 = r at HV HR11 hi2
  obtain ⟨v0, a11, b11⟩ := r
  simp only at HV HR11 hi2
  have hv11 := hi2.1; have ha11 := hi2.2; clear hi2
  go_wp2_with fail
  refine (HV.out w0 _ _ gr M2z.out).mono ?_
  rintro e w11 ⟨rfl, h⟩
  have MR0 : Aside0 (Mem w0 w11 (Hold.box gr #[.string s, .int .i64 (a11 : Int), .bool b11] 120 :: Hold.val (Kd.slice 107 kHandler) lo2 hi2 l2 [.slice X2 l2.length Y2] :: Hold.val (Kd.slice 76 kIns) lo1 hi1 l1 [.slice X1 l1.length Y1] :: Hold.val (Kd.slice 105 kCap) lo0 hi0 l0 [.slice X0 l0.length Y0] :: Hold.box g3 #[.int .i64 p, .int .i64 r, .slice X0 l0.length Y0, .slice X1 l1.length Y1, .slice X2 l2.length Y2] 73 :: Hold.box g2 #[.int .i64 0, .int .i64 0, .slice none 0 0, .slice none 0 0, .slice none 0 0] 73 :: H)) := ⟨h⟩
  clear h HV M2z
  obtain ⟨ge, hge⟩ : ∃ ge, ge = w11.heap.size := ⟨_, rfl⟩
  have ME0 : Aside0 (Mem w0 (w11.alloc (.cells #[.int .i64 v0, .int .i64 0, .int .i64 0] 107)) (Hold.box gr #[.string s, .int .i64 (a11 : Int), .bool b11] 120 :: Hold.box ge #[.int .i64 v0, .int .i64 0, .int .i64 0] 107 :: Hold.val (Kd.slice 107 kHandler) lo2 hi2 l2 [.slice X2 l2.length Y2] :: Hold.val (Kd.slice 76 kIns) lo1 hi1 l1 [.slice X1 l1.length Y1] :: Hold.val (Kd.slice 105 kCap) lo0 hi0 l0 [.slice X0 l0.length Y0] :: Hold.box g3 #[.int .i64 p, .int .i64 r, .slice X0 l0.length Y0, .slice X1 l1.length Y1, .slice X2 l2.length Y2] 73 :: Hold.box g2 #[.int .i64 0, .int .i64 0, .slice none 0 0, .slice none 0 0, .slice none 0 0] 73 :: H)) := ⟨(MR0.out.allocAt hge _ _).swap2⟩
  go_upto_region 20 with fail
  rw [← hge]
  generalize hWe : w11.alloc (.cells #[.int .i64 v0, .int .i64 0, .int .i64 0] 107) = We at ME0 ⊢
  clear hWe hge MR0
  have HV := Aside0.mk (cVarAtI s a11 b11 hs ha11); have hr := rel_var s a11 b11; have hi2 := stV_in s ha11 b11
  have HR12 := Aside0.mk hr; clear hr
  generalize stV s a11 b11 = r at HV HR12 hi2
  obtain ⟨v1, a12, b12⟩ := r
  simp only at HV HR12 hi2
  have hv12 := hi2.1; have ha12 := hi2.2; clear hi2
  go_wp2_with fail
  refine (HV.out w0 _ _ gr ME0.out).mono ?_
  rintro e w12 ⟨rfl, h⟩
  have MR1 : Aside0 (Mem w0 w12 (Hold.box gr #[.string s, .int .i64 (a12 : Int), .bool b12] 120 :: Hold.box ge #[.int .i64 v0, .int .i64 0, .int .i64 0] 107 :: Hold.val (Kd.slice 107 kHandler) lo2 hi2 l2 [.slice X2 l2.length Y2] :: Hold.val (Kd.slice 76 kIns) lo1 hi1 l1 [.slice X1 l1.length Y1] :: Hold.val (Kd.slice 105 kCap) lo0 hi0 l0 [.slice X0 l0.length Y0] :: Hold.box g3 #[.int .i64 p, .int .i64 r, .slice X0 l0.length Y0, .slice X1 l1.length Y1, .slice X2 l2.length Y2] 73 :: Hold.box g2 #[.int .i64 0, .int .i64 0, .slice none 0 0, .slice none 0 0, .slice none 0 0] 73 :: H)) := ⟨h⟩
  clear h HV ME0
  have ze := MR1.out.box (.tail _ (.head _)); have fe := MR1.out.free (.tail _ (.head _))
  have MS1 : Aside0 (Mem w0 (w12.setCell ⟨ge, 1, none⟩ (.int .i64 v1)) (Hold.box gr #[.string s, .int .i64 (a12 : Int), .bool b12] 120 :: Hold.box ge #[.int .i64 v0, .int .i64 v1, .int .i64 0] 107 :: Hold.val (Kd.slice 107 kHandler) lo2 hi2 l2 [.slice X2 l2.length Y2] :: Hold.val (Kd.slice 76 kIns) lo1 hi1 l1 [.slice X1 l1.length Y1] :: Hold.val (Kd.slice 105 kCap) lo0 hi0 l0 [.slice X0 l0.length Y0] :: Hold.box g3 #[.int .i64 p, .int .i64 r, .slice X0 l0.length Y0, .slice X1 l1.length Y1, .slice X2 l2.length Y2] 73 :: Hold.box g2 #[.int .i64 0, .int .i64 0, .slice none 0 0, .slice none 0 0, .slice none 0 0] 73 :: H)) := ⟨Mem.set (A := [_]) MR1.out 1 (.int .i64 v1) rfl⟩
  clear MR1
  go_upto_region 21 with fail
  clear ze fe
  generalize hWs : w12.setCell ⟨ge, 1, none⟩ (.int .i64 v1) = Ws1 at MS1 ⊢
  clear hWs
  have HV := Aside0.mk (cVarAtI s a12 b12 hs ha12); have hr := rel_var s a12 b12; have hi2 := stV_in s ha12 b12
  have HR13 := Aside0.mk hr; clear hr
  generalize stV s a12 b12 = r at HV HR13 hi2
  obtain ⟨v2, a13, b13⟩ := r
  simp only at HV HR13 hi2
  have hv13 := hi2.1; have ha13 := hi2.2; clear hi2
  go_wp2_with fail
  refine (HV.out w0 _ _ gr MS1.out).mono ?_
  rintro e w13 ⟨rfl, h⟩
  have MR2 : Aside0 (Mem w0 w13 (Hold.box gr #[.string s, .int .i64 (a13 : Int), .bool b13] 120 :: Hold.box ge #[.int .i64 v0, .int .i64 v1, .int .i64 0] 107 :: Hold.val (Kd.slice 107 kHandler) lo2 hi2 l2 [.slice X2 l2.length Y2] :: Hold.val (Kd.slice 76 kIns) lo1 hi1 l1 [.slice X1 l1.length Y1] :: Hold.val (Kd.slice 105 kCap) lo0 hi0 l0 [.slice X0 l0.length Y0] :: Hold.box g3 #[.int .i64 p, .int .i64 r, .slice X0 l0.length Y0, .slice X1 l1.length Y1, .slice X2 l2.length Y2] 73 :: Hold.box g2 #[.int .i64 0, .int .i64 0, .slice none 0 0, .slice none 0 0, .slice none 0 0] 73 :: H)) := ⟨h⟩
  clear h HV MS1
  have ze := MR2.out.box (.tail _ (.head _)); have fe := MR2.out.free (.tail _ (.head _))
  have MS2 : Aside0 (Mem w0 (w13.setCell ⟨ge, 2, none⟩ (.int .i64 v2)) (Hold.box gr #[.string s, .int .i64 (a13 : Int), .bool b13] 120 :: Hold.box ge #[.int .i64 v0, .int .i64 v1, .int .i64 v2] 107 :: Hold.val (Kd.slice 107 kHandler) lo2 hi2 l2 [.slice X2 l2.length Y2] :: Hold.val (Kd.slice 76 kIns) lo1 hi1 l1 [.slice X1 l1.length Y1] :: Hold.val (Kd.slice 105 kCap) lo0 hi0 l0 [.slice X0 l0.length Y0] :: Hold.box g3 #[.int .i64 p, .int .i64 r, .slice X0 l0.length Y0, .slice X1 l1.length Y1, .slice X2 l2.length Y2] 73 :: Hold.box g2 #[.int .i64 0, .int .i64 0, .slice none 0 0, .slice none 0 0, .slice none 0 0] 73 :: H)) := ⟨Mem.set (A := [_]) MR2.out 2 (.int .i64 v2) rfl⟩
  clear MR2
  go_upto_region 22 with fail
  clear ze fe
  generalize hWs : w13.setCell ⟨ge, 2, none⟩ (.int .i64 v2) = Ws2 at MS2 ⊢
  clear hWs
  have HX := Aside0.mk (show Rel No (phand s) aL2 bL2 (⟨v0, v1, v2⟩ : Handler) a13 b13 from Rel.seq HR11.out (Rel.seq HR12.out (Rel.seq HR13.out (rel_ret _ _ _ _) (fun h => h.elim)) (fun h => h.elim)) (fun h => h.elim))
  have ze := MS2.out.box (.tail _ (.head _)); have zg := MS2.out.box (.tail _ (.tail _ (.tail _ (.tail _ (.tail _ (.head _)))))); have fg := MS2.out.free (.tail _ (.tail _ (.tail _ (.tail _ (.tail _ (.head _))))))
  have MN : Aside0 (Mem w0 Ws2 (Hold.box gr #[.string s, .int .i64 (a13 : Int), .bool b13] 120 :: Hold.val (Kd.slice 107 kHandler) lo2 hi2 l2 [.slice X2 l2.length Y2] :: Hold.val (Kd.slice 76 kIns) lo1 hi1 l1 [.slice X1 l1.length Y1] :: Hold.val (Kd.slice 105 kCap) lo0 hi0 l0 [.slice X0 l0.length Y0] :: Hold.box g3 #[.int .i64 p, .int .i64 r, .slice X0 l0.length Y0, .slice X1 l1.length Y1, .slice X2 l2.length Y2] 73 :: Hold.box g2 #[.int .i64 0, .int .i64 0, .slice none 0 0, .slice none 0 0, .slice none 0 0] 73 :: H)) := ⟨MS2.out.mid (A := [_])⟩
  clear MS2
  have hlw : lo2 ≤ Ws2.heap.size := Nat.le_trans hhi2 (MN.out.fits _ (.tail _ (.head _))).2
  go_wp2_with (((with_reducible refine gate_builtin (b := .append) (xs := #[.tmp 67, .tmp 69]) rfl ?_); at_builtin; refine Aside0.out ?_))
  refine ⟨?_⟩
  refine Kd.R_append kHandler (w0 := Ws2) lo2 rfl (.tmp 67) (.tmp 69) 71 107 (.agg #[.int .i64 0, .int .i64 0, .int .i64 0]) 24 rfl Try.underlying71 (by kernel_rfl) rfl (by decide) (by decide) (.slice X2 l2.length Y2) l2 (⟨v0, v1, v2⟩ : Handler) [.int .i64 v0, .int .i64 v1, .int .i64 v2] (fun k => lo2 ≤ k) (fun _ => False) ?aV ?aX (kHandler_mkM _ _ _ _) (fun _ h => h.elim) (fun k hk => Nat.le_trans hlw hk) (Kd.R_mono (MN.out.row (.tail _ (.head _))) (fun k hk => hk.1)) (Below.refl _ _) hlw (by omega) ?_
  (case aV => first | rfl | (go_simp; done) | (go_simp; rfl))
  (case aX => first | rfl | (go_simp; done) | (go_simp; rfl))
  intro v9 w9 ho hb9 hg9 hat9; clear hg9 hat9
  obtain ⟨A9, y9, hv9⟩ := Kd.R_slice ho; subst hv9
  obtain ⟨ln, hln⟩ : ∃ ln, ln = l2 ++ [(⟨v0, v1, v2⟩ : Handler)] := ⟨_, rfl⟩
  have HLN := Aside0.mk hln
  rw [← hln] at ho ⊢
  clear hln
  have MG : Aside0 (Mem w0 w9 (Hold.box gr #[.string s, .int .i64 (a13 : Int), .bool b13] 120 :: Hold.val (Kd.slice 107 kHandler) lo2 w9.heap.size ln [.slice A9 ln.length y9] :: Hold.val (Kd.slice 76 kIns) lo1 hi1 l1 [.slice X1 l1.length Y1] :: Hold.val (Kd.slice 105 kCap) lo0 hi0 l0 [.slice X0 l0.length Y0] :: Hold.box g3 #[.int .i64 p, .int .i64 r, .slice X0 l0.length Y0, .slice X1 l1.length Y1, .slice X2 l2.length Y2] 73 :: Hold.box g2 #[.int .i64 0, .int .i64 0, .slice none 0 0, .slice none 0 0, .slice none 0 0] 73 :: H)) := ⟨Mem.growAt (A := [_]) MN.out (fun x hx => ?mgo) hb9 ho⟩
  (case mgo =>
   have h1 := HH.out; have h2 := HF2.out
   simp only [List.mem_append, List.mem_cons, List.not_mem_nil, or_false] at hx
   rcases hx with rfl | rfl | rfl | rfl | rfl | hx
   ·simp only [Hold.box]; omega
   ·simp only [Hold.val]; omega
   ·simp only [Hold.val]; omega
   ·simp only [Hold.box]; omega
   ·simp only [Hold.box]; omega
   ·have := h1.2 x hx; omega)
  have hh9 : lo2 ≤ w9.heap.size := Nat.le_trans hlw hb9.size
  clear ho hb9 MN ze zg fg
  have zg := MG.out.box (.tail _ (.tail _ (.tail _ (.tail _ (.head _))))); have fg := MG.out.free (.tail _ (.tail _ (.tail _ (.tail _ (.head _)))))
  have MZ : Aside0 (Mem w0 (w9.setCell ⟨g3, 4, none⟩ (.slice A9 ln.length y9)) (Hold.box gr #[.string s, .int .i64 (a13 : Int), .bool b13] 120 :: Hold.val (Kd.slice 107 kHandler) lo2 w9.heap.size ln [.slice A9 ln.length y9] :: Hold.val (Kd.slice 76 kIns) lo1 hi1 l1 [.slice X1 l1.length Y1] :: Hold.val (Kd.slice 105 kCap) lo0 hi0 l0 [.slice X0 l0.length Y0] :: Hold.box g3 #[.int .i64 p, .int .i64 r, .slice X0 l0.length Y0, .slice X1 l1.length Y1, .slice A9 ln.length y9] 73 :: Hold.box g2 #[.int .i64 0, .int .i64 0, .slice none 0 0, .slice none 0 0, .slice none 0 0] 73 :: H)) := ⟨Mem.set (A := [_, _, _, _]) MG.out 4 (.slice A9 ln.length y9) rfl⟩
  clear MG
  have HJ2 := Aside0.mk (show RInv No (phand s) a10 b10 (k + 1) ln a13 b13 from by rw [HLN.out]; exact HJ.out.step HX.out)
  have hszz : (w9.setCell ⟨g3, 4, none⟩ (.slice A9 ln.length y9)).heap.size = w9.heap.size := by simp
  go_wp2
  go_roundw
  (case measure => simp [intOf]; omega)
  (case rel => first | exact ⟨k + 1, a13, w9.heap.size, b13, ln, A9, y9, by go_num, by omega, by omega, ha13, hh9, HJ2, MZ⟩ | ((repeat apply Exists.intro); exact ⟨⟨k + 1, a13, w9.heap.size, b13, ln, A9, y9, by go_num, by omega, by omega, ha13, hh9, HJ2, MZ⟩, rfl⟩))
 have HL2 : Aside0 (Rel (fun l2 => (l2.length : Int) > 40) (plist (phand s) 40 s) aL1 bL1 l2 aL2 bL2) := ⟨by
  rcases HM10.out with ⟨hm, hn0, hbt⟩ | ⟨hm, hn0, hbt⟩
  ·refine rel_many _ HR10.out hm (fun e => ?_) (.inl ?_)
   ·have h := HJ.out
    rw [hbt] at h
    exact h.stays
   ·have h := HJ.out
    rw [hbt] at h
    exact h.stays
  ·have hkk : k = n2v.toNat := by omega
   subst hkk
   have h := HJ.out
   rw [hbt] at h
   exact Rel.weak (RInv.all HR10.out (by omega) h) (fun l2 h => by obtain ⟨x, _, h⟩ := h; exact h.elim)⟩
 have hcc : ¬ (k : Int) < n2 := hc; have hle : k = n2.toNat := by omega
 clear HJ hkn hk1000 hll
 
 have z3 := M2z.out.box (.tail _ (.tail _ (.tail _ (.tail _ (.head _))))); have z2 := M2z.out.box (.tail _ (.tail _ (.tail _ (.tail _ (.tail _ (.head _)))))); have f2 := M2z.out.free (.tail _ (.tail _ (.tail _ (.tail _ (.tail _ (.head _))))))
 have ME : Aside0 (Mem w0 (((((wr.setCell ⟨g2, 0, none⟩ (.int .i64 p)).setCell ⟨g2, 1, none⟩ (.int .i64 r)).setCell ⟨g2, 2, none⟩ (.slice X0 l0.length Y0)).setCell ⟨g2, 3, none⟩ (.slice X1 l1.length Y1)).setCell ⟨g2, 4, none⟩ (.slice X2 l2.length Y2)) (Hold.box gr #[.string s, .int .i64 (aL2 : Int), .bool bL2] 120 :: Hold.val (Kd.slice 107 kHandler) lo2 hi2 l2 [.slice X2 l2.length Y2] :: Hold.val (Kd.slice 76 kIns) lo1 hi1 l1 [.slice X1 l1.length Y1] :: Hold.val (Kd.slice 105 kCap) lo0 hi0 l0 [.slice X0 l0.length Y0] :: Hold.box g3 #[.int .i64 p, .int .i64 r, .slice X0 l0.length Y0, .slice X1 l1.length Y1, .slice X2 l2.length Y2] 73 :: Hold.box g2 #[.int .i64 p, .int .i64 r, .slice X0 l0.length Y0, .slice X1 l1.length Y1, .slice X2 l2.length Y2] 73 :: H)) := ⟨(Mem.set (A := [_, _, _, _, _]) (Mem.set (A := [_, _, _, _, _]) (Mem.set (A := [_, _, _, _, _]) (Mem.set (A := [_, _, _, _, _]) (Mem.set (A := [_, _, _, _, _]) M2z.out 0 (.int .i64 p) rfl) 1 (.int .i64 r) rfl) 2 (.slice X0 l0.length Y0) rfl) 3 (.slice X1 l1.length Y1) rfl) 4 (.slice X2 l2.length Y2) rfl)⟩
 have HREL := Aside0.mk (show Rel fdoom (pfunc s) a bad (⟨p, r, l0, l1, l2⟩ : Func) aL2 bL2 from Rel.seq HR1.out (Rel.seq HR2.out (Rel.seq HL0.out (Rel.seq HL1.out (Rel.seq HL2.out (rel_ret _ _ _ _) (fun h => .inr (.inr h))) (fun h => .inr (.inl h))) (fun h => .inl h)) (fun h => h.elim)) (fun h => h.elim))
 clear M2z
 go_wp2
 refine bodyPost_ret (results_cell_row rfl _ _ g2 73 #[.int .i64 p, .int .i64 r, .slice X0 l0.length Y0, .slice X1 l1.length Y1, .slice X2 l2.length Y2] (0, 0) _ rfl (ME.out.blk (.tail _ (.tail _ (.tail _ (.tail _ (.tail _ (.head _))))))) hu1 rfl (by kernel_rfl)) rfl ?_
 have h0 := HF0.out; have h1 := HF1.out; have h2 := HF2.out; have hg := HG2.out
 refine ⟨⟨p, r, l0, l1, l2⟩, aL2, bL2, _, [.int .i64 p, .int .i64 r, .slice X0 l0.length Y0, .slice X1 l1.length Y1, .slice X2 l2.length Y2], rfl, Mem.top ((((((ME.out.mid (A := [_])).mid (A := [_])).mid (A := [_])).mid (A := [_])).mid (A := [_]))) ?_ ?_ ?_ (kFuncI_mkM _ _ _ (⟨p, r, l0, l1, l2⟩ : Func) (Kd.R_mono (Kd.R_lower (ME.out.row (.tail _ (.tail _ (.tail _ (.head _))))) (by omega)) (fun _ _ => trivial)) (Kd.R_mono (Kd.R_lower (ME.out.row (.tail _ (.tail _ (.head _)))) (by omega)) (fun _ _ => trivial)) (Kd.R_mono (Kd.R_lower (ME.out.row (.tail _ (.head _))) (by omega)) (fun _ _ => trivial))), haL2, HREL.out⟩
 ·intro x hx
  rcases List.mem_cons.1 hx with rfl | hx
  ·exact Nat.le_trans HH.out.1 (Nat.le_of_eq HG2.out)
  ·exact Nat.le_trans (HH.out.2 x hx) (Nat.le_of_eq HG2.out)
 ·rw [← HG2.out]; exact (ME.out.fits _ (.tail _ (.tail _ (.tail _ (.tail _ (.tail _ (.head _))))))).1
 ·have := (ME.out.fits _ (.tail _ (.tail _ (.tail _ (.tail _ (.tail _ (.head _))))))).2
  simp only [Hold.box] at this
  rw [← HG2.out]
  omega
end Go.Proofs.Ytcbaokflimdjnaa.Law
end
section
namespace Go.Proofs.Ytcbaokflimdjnaa.Law
open Go.RowKit Go.Proofs.YtcbaokflimdjnaaW.PrintWords Go.Proofs.YtcbaokflimdjnaaW.PrintLast Go.Proofs.Ytcbaokflimdjnaa.Steps Go.Proofs.YtcbaokflimdjnaaW.PrintMore Go.Proofs.Ytcbaokflimdjnaa.Num Go.Proofs.Ytcbaokflimdjnaa
def ibI.T6 : Bool × List (List Nat × List Nat) := (true, [([], []), ([], []), ([1], [1]), ([2], [2]), ([3], [3]), ([], []), ([5], [5]), ([6], [6]), ([7], [7]), ([4, 8], [4, 8]), ([0, 0, 1, 2, 3, 4, 5, 6, 7, 8, 9], [0]), ([10, 0, 1, 2, 3, 4, 5, 6, 7, 8, 9], [10]), ([11, 9, 9, 0, 1, 2, 3, 4, 5, 6, 7, 8, 9], [9, 11])])
def ibI.B6 : List Nat := [0, 0, 2, 6, 14, 0, 32, 96, 224, 510, 1023, 2047, 4095]
theorem ibI.tab6 : rtab .any (opsOf Try.f79 6) = ibI.T6 := by kernel_rfl
theorem ibI.bits6 : waitsOk ibI.T6.2 ibI.B6 = true := by kernel_rfl
def ibI.T12 : Bool × List (List Nat × List Nat) := (true, [([], []), ([], []), ([1], [1]), ([2], [2]), ([3], [3]), ([], []), ([5], [5]), ([], []), ([7], [7]), ([6, 8], [6, 8]), ([9], [9]), ([10], [10]), ([4, 11], [4, 11]), ([0, 0, 1, 2, 3, 4, 5, 6, 7, 8, 9, 10, 11, 12], [0]), ([13, 0, 1, 2, 3, 4, 5, 6, 7, 8, 9, 10, 11, 12], [13]), ([14, 12, 12, 0, 1, 2, 3, 4, 5, 6, 7, 8, 9, 10, 11, 12], [12, 14])])
def ibI.B12 : List Nat := [0, 0, 2, 6, 14, 0, 32, 0, 128, 480, 992, 2016, 4094, 8191, 16383, 32767]
theorem ibI.tab12 : rtab .any (opsOf Try.f79 12) = ibI.T12 := by kernel_rfl
theorem ibI.bits12 : waitsOk ibI.T12.2 ibI.B12 = true := by kernel_rfl
def ibI.T15 : Bool × List (List Nat × List Nat) := (true, [([], []), ([], []), ([1], [1]), ([2], [2]), ([3], [3]), ([], []), ([5], [5]), ([4, 6], [4, 6]), ([0, 0, 1, 2, 3, 4, 5, 6, 7], [0]), ([8, 0, 1, 2, 3, 4, 5, 6, 7], [8]), ([9, 7, 7, 0, 1, 2, 3, 4, 5, 6, 7], [7, 9])])
def ibI.B15 : List Nat := [0, 0, 2, 6, 14, 0, 32, 126, 255, 511, 1023]
theorem ibI.tab15 : rtab .any (opsOf Try.f79 15) = ibI.T15 := by kernel_rfl
theorem ibI.bits15 : waitsOk ibI.T15.2 ibI.B15 = true := by kernel_rfl
def ibI.T35 : Bool × List (List Nat × List Nat) := (true, [([], []), ([], []), ([1], [1]), ([2], [2]), ([3], [3]), ([], []), ([5], [5]), ([6], [6]), ([7], [7]), ([4, 8], [4, 8]), ([0, 0, 1, 2, 3, 4, 5, 6, 7, 8, 9], [0]), ([10, 0, 1, 2, 3, 4, 5, 6, 7, 8, 9], [10]), ([11, 9, 9, 0, 1, 2, 3, 4, 5, 6, 7, 8, 9], [9, 11])])
def ibI.B35 : List Nat := [0, 0, 2, 6, 14, 0, 32, 96, 224, 510, 1023, 2047, 4095]
theorem ibI.tab35 : rtab .any (opsOf Try.f79 35) = ibI.T35 := by kernel_rfl
theorem ibI.bits35 : waitsOk ibI.T35.2 ibI.B35 = true := by kernel_rfl
set_option maxHeartbeats 16000000 in
set_option maxRecDepth 100000 in
theorem cBytesI (x : Image) (A0 : Option Addr) (c0 : Nat) (A1 : Option Addr) (c1 : Nat) (w : World) (hi : imgB x = true) (l0 : x.funcs.length ≤ c0) (g0 : kFuncI.C w A0 x.funcs.length x.funcs) (l1 : x.consts.length ≤ c1) (g1 : kConst.C w A1 x.consts.length x.consts) (hn : ∀ y ∈ x.consts, 0 ≤ y.num ∧ y.num < 18446744073709551616) :
  Calls Try.prog 79 #[.agg #[.slice A0 x.funcs.length c0, .slice A1 x.consts.length c1]] w fun e w' => e = .returned (.string (strOfNums (imgL x))) ∧ Below w.heap.size w w' := by
 have hu0 := Try.underlying37; have hu1 := Try.underlying160; have hu2 := Try.underlying96; have hu3 := Try.underlying5; have hu4 := Try.underlying100; have hu5 := Try.underlying73; have hu6 := Try.underlying105; have hu7 := Try.underlying76; have hu8 := Try.underlying107; have hu9 := Try.underlying35; have hu10 := Try.underlying34; have hu11 := Try.underlying69; have hu12 := Try.underlying70; have hu13 := Try.underlying71; have hu14 := Try.underlying26; have hu15 := Try.underlying3; have hu16 := Try.underlying98; have hu17 := Try.underlying9
 have kc : (convert 96 96 (.slice (some ⟨w.heap.size + 1, 0, none⟩) 3 3)).run Try.prog ((w.alloc (.cells #[.slice A0 x.funcs.length c0, .slice A1 x.consts.length c1] 37)).alloc (.cells #[.int .u8 83, .int .u8 67, .int .u8 49] 5)) = .ok (.slice (some ⟨w.heap.size + 1, 0, none⟩) 3 3) ((w.alloc (.cells #[.slice A0 x.funcs.length c0, .slice A1 x.consts.length c1] 37)).alloc (.cells #[.int .u8 83, .int .u8 67, .int .u8 49] 5 (3, 4))) := by
  have h := Lib.run_convert_bytes_const (P := Try.prog) (w.alloc (.cells #[.slice A0 x.funcs.length c0, .slice A1 x.consts.length c1] 37)) 96 5 #[.int .u8 83, .int .u8 67, .int .u8 49] 3 3 Try.underlying96 Try.underlying5
  rw [show (w.alloc (.cells #[.slice A0 x.funcs.length c0, .slice A1 x.consts.length c1] 37)).heap.size = w.heap.size + 1 by simp] at h
  exact h
 have G0 := Aside0.mk g0; have G1 := Aside0.mk g1; have HN := Aside0.mk hn; have L0 := Aside0.mk l0; have L1 := Aside0.mk l1; have HI := Aside0.mk hi
 have hln := img_len hi
 clear g0 g1 hn l0 l1 hi
 have M0 := Aside0.mk ((Mem.start w).allocAt rfl #[.slice A0 x.funcs.length c0, .slice A1 x.consts.length c1] 37)
 have N1 := Aside0.mk (M0.out.convC [83, 67, 49] 5)
 have N2 : Aside0 (Mem w ((((w.alloc (.cells #[.slice A0 x.funcs.length c0, .slice A1 x.consts.length c1] 37)).alloc (.cells #[.int .u8 83, .int .u8 67, .int .u8 49] 5 (3, 4))).alloc (.cells #[.slice (some ⟨w.heap.size + 1, 0, none⟩) 3 3] 160))) [Hold.box (w.heap.size + 2) #[.slice (some ⟨w.heap.size + 1, 0, none⟩) ([83, 67, 49] : List Int).length 3] 160, Hold.bts (w.heap.size + 1) 3 [83, 67, 49], Hold.box w.heap.size #[.slice A0 x.funcs.length c0, .slice A1 x.consts.length c1] 37]) := by
  have h := N1.out.allocAt (g := w.heap.size + 2) (by simp) #[.slice (some ⟨w.heap.size + 1, 0, none⟩) 3 3] 160
  rw [show (w.alloc (.cells #[.slice A0 x.funcs.length c0, .slice A1 x.consts.length c1] 37)).heap.size = w.heap.size + 1 by simp] at h
  exact ⟨h⟩
 clear N1
 go_enter Try.func79, Try.ntmps79
 go_upto_region 2 with fail
 clear M0
 obtain ⟨gw, hgw⟩ : ∃ gw, gw = w.heap.size + 2 := ⟨_, rfl⟩
 rw [← hgw] at N2 ⊢
 generalize hW : ((w.alloc (.cells #[.slice A0 x.funcs.length c0, .slice A1 x.consts.length c1] 37)).alloc (.cells #[.int .u8 83, .int .u8 67, .int .u8 49] 5 (3, 4))).alloc (.cells #[.slice (some ⟨w.heap.size + 1, 0, none⟩) 3 3] 160) = W at N2 ⊢
 clear hW hgw kc
 have z0 := N2.out.box (.head _); have z1 := N2.out.box (.tail _ (.tail _ (.head _)))
 have hl0 : ([83, 67, 49] : List Int).length ≤ 1000000 := by simp
 go_wp2_with fail
 have M3 := Aside0.mk (N2.out.allocAt rfl #[.int .i64 (x.consts.length : Int)] 3)
 refine (cNumC [(x.consts.length : Int)] (by intro n hn; rw [List.mem_singleton.1 hn]; omega) (by simp) _ _ _ _ _ _ _ _ (imgL1 x) (by omega) rfl M3.out 1 1 rfl).mono ?_
 clear M3 N2
 rintro e w3 ⟨rfl, g, c, h⟩
 have M1 := Aside0.mk h; clear h
 clear z0 z1 hl0
 go_upto_region 3 with fail
 have z0 := M1.out.box (.tail _ (.tail _ (.head _)))
 go_upto_region 4 with fail
 clear z0
 go_loopw [29] (fun v wx => ∃ (k g c : Nat) (lk : List Int), v = .int .i64 k ∧ k ≤ x.consts.length ∧ Aside0 (lk = imgL1 x ++ flatTo constL x.consts k) ∧ Aside0 (Mem w wx [Hold.box gw #[.slice (some ⟨g, 0, none⟩) (lk).length c] 160, Hold.bts g c (lk), Hold.box w.heap.size #[.slice A0 x.funcs.length c0, .slice A1 x.consts.length c1] 37])) (fun v _ => x.consts.length - (intOf v).toNat)
 case atStart => exact ⟨0, g, c, imgL1 x, rfl, by omega, ⟨by rw [flatTo_zero, List.append_nil]⟩, M1⟩
 case round =>
 clear M1
 obtain ⟨k, g, c, lk, rfl, hk, HLK, M1⟩ := hrel
 have hlk : lk.length ≤ 2000 := by
  rw [HLK.out, List.length_append]
  have h1 := imgL1_len x
  have h2 := constTo_len HI.out k
  omega
 by_cases hlt : k < x.consts.length
 ·skip
  have hle : (k : Int) < (x.consts.length : Int) := by omega
  have hk0 : (0 : Int) ≤ (k : Int) := by omega
  have HS := Aside0.mk (flatTo_succ zConst constL x.consts hlt)
  have hnum := HN.out _ (el_mem zConst hlt)
  have htx := img_const HI.out (el_mem zConst hlt)
  obtain ⟨ac, hac, _, y0, y1, y2⟩ := Const_at (Kd.C_below G1.out M1.out.below) k hlt
  subst hac
  obtain ⟨co, hco⟩ : ∃ co, co = el zConst x.consts k := ⟨_, rfl⟩
  rw [← hco] at HS hnum htx y0 y1 y2
  clear hco
  obtain ⟨gc, hgc⟩ : ∃ gc : Nat, gc = wr.heap.size := ⟨_, rfl⟩
  have M2 := Aside0.mk (M1.out.allocAt hgc #[.int .i64 co.kind, .int .u64 co.num, .string co.text] 100).rot
  go_upto_region 6 with fail
  rw [← hgc]
  clear y0 y1 y2 M1 hgc
  generalize wr.alloc (.cells #[.int .i64 co.kind, .int .u64 co.num, .string co.text] 100) = wa at M2 ⊢
  obtain ⟨lk2, hlk2⟩ : ∃ lk2, lk2 = lk ++ [co.kind % 256] := ⟨_, rfl⟩
  have HL2 := Aside0.mk hlk2; clear hlk2
  refine sz 13 (fun W => W.cell? ⟨gw, 0, none⟩ = some (.slice (some ⟨g, 0, none⟩) lk.length c) ∧ W.cell? ⟨gc, 0, none⟩ = some (.int .i64 co.kind)) [9, 12] ibI.tab6 ibI.bits6 ⟨(M2.out.drew.box (.head _) 0).trans rfl, (M2.out.drew.box (.tail _ (.tail _ (.head _))) 0).trans rfl⟩ (fun HT_ HW_ hHeld => ?_)
  have MD := Aside0.mk M2.out.drew
  clear M2
  generalize hwd : World.drew _ = wd at MD hHeld ⊢
  clear hwd
  refine pz 0 33 ?_; refine pz 1 34 ?_; refine pz 2 35 ?_; refine pz 3 36 ?_; refine pz 5 38 ?_; refine tz 4 37 ?_; refine tz 6 39 ?_; refine pz 7 40 ?_
  refine ez 8 (some 41) (fun K hK => ?_)
  refine value_ (w1 := ?_) (v := ?_) (by rfl) rfl ?_ ?_
  rotate_left 2
  ·go_simp
   constructor
   ·rfl
   ·rfl
  refine hK.out _ _ ⟨((MD.out.step (below_alloc (Below.refl _ _) _)).box (.head _) 0).trans rfl, ((MD.out.step (below_alloc (Below.refl _ _) _)).box (.tail _ (.tail _ (.head _))) 0).trans rfl⟩ (fun hHeld => ?_); clear hK K; refine kz (some 41) ?_
  refine lz 9 (some 42) (fun K hK => ?_)
  have MA := Aside0.mk (MD.out.allocAt (g := wd.heap.size) rfl #[.int .u8 (co.kind % 256)] 5)
  refine bts_append_step (A := [_, _]) MA.out (by rfl) (.tmp 37) (.tmp 41) 96 96 5 rfl Try.underlying96 (by kernel_rfl) (.slice (some ⟨wd.heap.size, 0, none⟩) 1 1) ?aV ?aX 1 [co.kind % 256] (Src.byte Try.underlying96 (MA.out.blk (.head _))) (by simp; omega) ?_
  (case aV => first | rfl | (go_simp; done) | (go_simp; rfl))
  (case aX => first | rfl | (go_simp; done) | (go_simp; rfl))
  intro g2 cq2 W2 h
  have h := h.drop
  rw [← HL2.out] at h ⊢
  have M5 := Aside0.mk h
  clear h MD
  refine hK.out _ _ ?_; clear hK K; refine kz (some 42) ?_
  refine pz 10 43 ?_; refine pz 11 44 ?_
  refine lz 12 none (fun K hK => ?_)
  have b0 := M5.out.box (.head _); have b1 := M5.out.free (.head _)
  refine skip_ (w1 := ?_) (by rfl) rfl ?_ ?_
  rotate_left
  ·go_simp
   rfl
  clear b0 b1
  refine hK.out _ _ ?_; clear hK K
  refine dz ?_
  clear hHeld HT_ HW_
  have M6 : Aside0 (Mem w (W2.setCell ⟨gw, 0, none⟩ (.slice (some ⟨g2, 0, none⟩) lk2.length cq2)) [Hold.box gw #[.slice (some ⟨g2, 0, none⟩) (lk2).length cq2] 160, Hold.bts g2 cq2 (lk2), Hold.box gc #[.int .i64 co.kind, .int .u64 co.num, .string co.text] 100, Hold.box w.heap.size #[.slice A0 x.funcs.length c0, .slice (some ac) x.consts.length c1] 37]) := ⟨Mem.set (A := []) M5.out 0 (.slice (some ⟨g2, 0, none⟩) lk2.length cq2) rfl⟩; clear M5
  generalize W2.setCell ⟨gw, 0, none⟩ (.slice (some ⟨g2, 0, none⟩) lk2.length cq2) = W3 at M6 ⊢
  have hl2 : lk2.length ≤ 2001 := by rw [HL2.out, List.length_append]; simp; omega
  have zc := M6.out.box (.tail _ (.tail _ (.head _)))
  by_cases k1 : co.kind = 1
  ·have q1 : (co.kind == 1) = true := by simp [k1]
   have HE0 := Aside0.mk (show imgL1 x ++ flatTo constL x.consts (k + 1) = lk2 ++ eightTo co.num 8 from by
    rw [HS.out, ← List.append_assoc, ← HLK.out, HL2.out]
    unfold constL
    rw [if_pos k1, List.append_assoc]
    rfl)
   clear k1 htx
   go_upto_region 10 with fail
   clear zc
   go_loopw [6] (fun v wx => ∃ (m : Int) (j g c : Nat) (lk : List Int), v = .int .i64 m ∧ Aside0 (m = 7 - (j : Int)) ∧ j ≤ 8 ∧ Aside0 (lk = lk2 ++ eightTo co.num j) ∧ Aside0 (Mem w wx [Hold.box gw #[.slice (some ⟨g, 0, none⟩) (lk).length c] 160, Hold.bts g c (lk), Hold.box gc #[.int .i64 co.kind, .int .u64 co.num, .string co.text] 100, Hold.box w.heap.size #[.slice A0 x.funcs.length c0, .slice (some ac) x.consts.length c1] 37])) (fun v _ => ((intOf v) + 1).toNat)
   case atStart => exact ⟨7, 0, _, _, lk2, rfl, ⟨rfl⟩, by omega, ⟨by simp [eightTo]⟩, M6⟩
   case round =>
   clear M6
   obtain ⟨m, j, g, c, lj, rfl, hm, hj, HLJ, M6⟩ := hrel
   by_cases hjt : j < 8
   ·have hle : (m : Int) ≥ 0 := by have := hm.out; omega
    have hle2 : (0 : Int) ≤ 8 * m := by omega
    have hm7 : m ≤ 7 := by have := hm.out; omega
    have hwm : wrap64 (8 * m) = 8 * m := wrap64_id (by omega) (by omega)
    have hlj : lj.length ≤ 2010 := by rw [HLJ.out, List.length_append, eight_len]; omega
    have HS8 := Aside0.mk (eight_succ co.num j)
    go_upto_region 12 with fail
    obtain ⟨lk2, hlk2⟩ : ∃ lk2, lk2 = lj ++ [IntKind.u8.wrap (co.num / 2 ^ (8 * m).toNat)] := ⟨_, rfl⟩
    have HL2 := Aside0.mk hlk2; clear hlk2
    refine sz 16 (fun W => W.cell? ⟨gw, 0, none⟩ = some (.slice (some ⟨g, 0, none⟩) lj.length c) ∧ W.cell? ⟨gc, 1, none⟩ = some (.int .u64 co.num)) [12, 15] ibI.tab12 ibI.bits12 ⟨(M6.out.drew.box (.head _) 0).trans rfl, (M6.out.drew.box (.tail _ (.tail _ (.head _))) 1).trans rfl⟩ (fun HT_ HW_ hHeld => ?_)
    have MD := Aside0.mk M6.out.drew
    clear M6
    generalize hwd : World.drew _ = wd at MD hHeld ⊢
    clear hwd
    refine pz 0 53 ?_; refine pz 1 54 ?_; refine pz 2 55 ?_; refine pz 3 56 ?_; refine pz 5 58 ?_; refine pz 7 60 ?_; refine pz 8 61 ?_; refine tz 4 57 ?_; refine tz 6 59 ?_; refine pz 9 62 ?_; refine pz 10 63 ?_
    refine ez 11 (some 64) (fun K hK => ?_)
    refine value_ (w1 := ?_) (v := ?_) (by rfl) rfl ?_ ?_
    rotate_left 2
    ·go_simp
     constructor
     ·rfl
     ·rfl
    refine hK.out _ _ ⟨((MD.out.step (below_alloc (Below.refl _ _) _)).box (.head _) 0).trans rfl, ((MD.out.step (below_alloc (Below.refl _ _) _)).box (.tail _ (.tail _ (.head _))) 1).trans rfl⟩ (fun hHeld => ?_); clear hK K; refine kz (some 64) ?_
    refine lz 12 (some 65) (fun K hK => ?_)
    have MA := Aside0.mk (MD.out.allocAt (g := wd.heap.size) rfl #[.int .u8 (IntKind.u8.wrap (co.num / 2 ^ (8 * m).toNat))] 5)
    refine bts_append_step (A := [_, _]) MA.out (by rfl) (.tmp 57) (.tmp 64) 96 96 5 rfl Try.underlying96 (by kernel_rfl) (.slice (some ⟨wd.heap.size, 0, none⟩) 1 1) ?aV ?aX 1 [IntKind.u8.wrap (co.num / 2 ^ (8 * m).toNat)] (Src.byte Try.underlying96 (MA.out.blk (.head _))) (by simp; omega) ?_
    (case aV => first | rfl | (go_simp; done) | (go_simp; rfl))
    (case aX => first | rfl | (go_simp; done) | (go_simp; rfl))
    intro g2 cq2 W2 h
    have h := h.drop
    rw [← HL2.out] at h ⊢
    have M5 := Aside0.mk h
    clear h MD
    refine hK.out _ _ ?_; clear hK K; refine kz (some 65) ?_
    refine pz 13 66 ?_; refine pz 14 67 ?_
    refine lz 15 none (fun K hK => ?_)
    have b0 := M5.out.box (.head _); have b1 := M5.out.free (.head _)
    refine skip_ (w1 := ?_) (by rfl) rfl ?_ ?_
    rotate_left
    ·go_simp
     rfl
    clear b0 b1
    refine hK.out _ _ ?_; clear hK K
    refine dz ?_
    clear hHeld HT_ HW_
    have M6 : Aside0 (Mem w (W2.setCell ⟨gw, 0, none⟩ (.slice (some ⟨g2, 0, none⟩) lk2.length cq2)) [Hold.box gw #[.slice (some ⟨g2, 0, none⟩) (lk2).length cq2] 160, Hold.bts g2 cq2 (lk2), Hold.box gc #[.int .i64 co.kind, .int .u64 co.num, .string co.text] 100, Hold.box w.heap.size #[.slice A0 x.funcs.length c0, .slice (some ac) x.consts.length c1] 37]) := ⟨Mem.set (A := []) M5.out 0 (.slice (some ⟨g2, 0, none⟩) lk2.length cq2) rfl⟩; clear M5
    generalize W2.setCell ⟨gw, 0, none⟩ (.slice (some ⟨g2, 0, none⟩) lk2.length cq2) = W3 at M6 ⊢
    go_wp2
    go_roundw
    (case measure => simp [intOf]; omega)
    have HE := Aside0.mk (show lk2 = _ ++ eightTo co.num (j + 1) from by rw [HS8.out, HL2.out, HLJ.out, ← List.append_assoc, hm.out, IntKind.wrap_u8, show (8 * (7 - (j : Int))).toNat = 8 * (7 - j) by omega])
    (case rel => first | exact ⟨m - 1, j + 1, _, _, lk2, by go_num, ⟨by have := hm.out; omega⟩, by omega, HE, M6⟩ | ((repeat apply Exists.intro); exact ⟨⟨m - 1, j + 1, _, _, lk2, by go_num, ⟨by have := hm.out; omega⟩, by omega, HE, M6⟩, rfl⟩))
   ·have hle : ¬ ((m : Int) ≥ 0) := by have := hm.out; omega
    obtain rfl : j = 8 := by omega
    have HE := Aside0.mk (HLJ.out.trans HE0.out.symm)
    go_wp2
    go_roundw
    (case measure => simp [intOf]; omega)
    (case rel => first | exact ⟨k + 1, _, _, lj, by go_num, by omega, HE, Aside0.mk (Mem.mid (A := [_, _]) M6.out)⟩ | ((repeat apply Exists.intro); exact ⟨⟨k + 1, _, _, lj, by go_num, by omega, HE, Aside0.mk (Mem.mid (A := [_, _]) M6.out)⟩, rfl⟩))
  ·have q1 : (co.kind == 1) = false := by simp [k1]
   by_cases k2 : co.kind = 2
   ·have q2 : (co.kind == 2) = true := by simp [k2]
    have HE0 := Aside0.mk (show lk2 ++ numsL [(co.text.size : Int)] ++ bytesOf co.text = imgL1 x ++ flatTo constL x.consts (k + 1) from by
     rw [HS.out, ← List.append_assoc (imgL1 x), ← HLK.out, HL2.out]
     unfold constL
     rw [if_neg k1, if_pos k2]
     simp [numsL])
    clear k1 k2
    go_upto_region 14 with fail
    obtain ⟨la, hla⟩ : ∃ la, la = lk2 := ⟨_, rfl⟩
    rw [← hla] at M6 HL2 HE0 hl2 ⊢
    have HLA := HL2; clear HL2 hla
    obtain ⟨l3, hl3⟩ : ∃ l3, l3 = la ++ numsL [(co.text.size : Int)] := ⟨_, rfl⟩
    have HL3 := Aside0.mk hl3; clear hl3
    have z0 := zc; clear zc
    go_wp2_with fail
    have M3 := Aside0.mk (M6.out.allocAt rfl #[.int .i64 (co.text.size : Int)] 3)
    refine (cNumC [(co.text.size : Int)] (by intro n hn; rw [List.mem_singleton.1 hn]; omega) (by simp) _ _ _ _ _ _ _ _ (l3) (by omega) HL3.out M3.out 1 1 rfl).mono ?_
    clear M3 M6
    rintro e w3 ⟨rfl, g, c, h⟩
    have M7 := Aside0.mk h; clear h
    clear z0
    have hl3 : l3.length ≤ 2010 := by
     rw [HL3.out, List.length_append]
     have := numsL_len [(co.text.size : Int)]
     simp at this
     omega
    go_upto_region 15 with fail
    obtain ⟨lk2, hlk2⟩ : ∃ lk2, lk2 = l3 ++ bytesOf (co.text) := ⟨_, rfl⟩
    have HL2 := Aside0.mk hlk2; clear hlk2
    refine sz 11 (fun W => W.cell? ⟨gw, 0, none⟩ = some (.slice (some ⟨g, 0, none⟩) l3.length c) ∧ W.cell? ⟨gc, 2, none⟩ = some (.string co.text)) [7, 10] ibI.tab15 ibI.bits15 ⟨(M7.out.drew.box (.head _) 0).trans rfl, (M7.out.drew.box (.tail _ (.tail _ (.head _))) 2).trans rfl⟩ (fun HT_ HW_ hHeld => ?_)
    have MD := Aside0.mk M7.out.drew
    clear M7
    generalize hwd : World.drew _ = wd at MD hHeld ⊢
    clear hwd
    refine pz 0 76 ?_; refine pz 1 77 ?_; refine pz 2 78 ?_; refine pz 3 79 ?_; refine pz 5 81 ?_; refine tz 4 80 ?_; refine tz 6 82 ?_
    refine lz 7 (some 83) (fun K hK => ?_)
    refine bts_append_step (A := [_]) MD.out (by rfl) (.tmp 80) (.tmp 82) 96 9 5 rfl Try.underlying96 (by kernel_rfl) (.string (co.text)) ?aV ?aX (co.text).size _ (Src.text Try.underlying9 _) (by rw [bytesOf_length]; omega) ?_
    (case aV => first | rfl | (go_simp; done) | (go_simp; rfl))
    (case aX => first | rfl | (go_simp; done) | (go_simp; rfl))
    intro g2 cq2 W2 h
    rw [← HL2.out] at h ⊢
    have M5 := Aside0.mk h
    clear h MD
    refine hK.out _ _ ?_; clear hK K; refine kz (some 83) ?_
    refine pz 8 84 ?_; refine pz 9 85 ?_
    refine lz 10 none (fun K hK => ?_)
    have b0 := M5.out.box (.head _); have b1 := M5.out.free (.head _)
    refine skip_ (w1 := ?_) (by rfl) rfl ?_ ?_
    rotate_left
    ·go_simp
     rfl
    clear b0 b1
    refine hK.out _ _ ?_; clear hK K
    refine dz ?_
    clear hHeld HT_ HW_
    have M6 : Aside0 (Mem w (W2.setCell ⟨gw, 0, none⟩ (.slice (some ⟨g2, 0, none⟩) lk2.length cq2)) [Hold.box gw #[.slice (some ⟨g2, 0, none⟩) (lk2).length cq2] 160, Hold.bts g2 cq2 (lk2), Hold.box gc #[.int .i64 co.kind, .int .u64 co.num, .string co.text] 100, Hold.box w.heap.size #[.slice A0 x.funcs.length c0, .slice (some ac) x.consts.length c1] 37]) := ⟨Mem.set (A := []) M5.out 0 (.slice (some ⟨g2, 0, none⟩) lk2.length cq2) rfl⟩; clear M5
    generalize W2.setCell ⟨gw, 0, none⟩ (.slice (some ⟨g2, 0, none⟩) lk2.length cq2) = W3 at M6 ⊢
    have HE := Aside0.mk (show lk2 = imgL1 x ++ flatTo constL x.consts (k + 1) from by rw [HL2.out, HL3.out, ← HE0.out])
    go_wp2
    go_roundw
    (case measure => simp [intOf]; omega)
    (case rel => first | exact ⟨k + 1, _, _, lk2, by go_num, by omega, HE, Aside0.mk (Mem.mid (A := [_, _]) M6.out)⟩ | ((repeat apply Exists.intro); exact ⟨⟨k + 1, _, _, lk2, by go_num, by omega, HE, Aside0.mk (Mem.mid (A := [_, _]) M6.out)⟩, rfl⟩))
   ·have q2 : (co.kind == 2) = false := by simp [k2]
    have HE := Aside0.mk (show lk2 = imgL1 x ++ flatTo constL x.consts (k + 1) from by
     rw [HS.out, ← List.append_assoc, ← HLK.out, HL2.out]
     unfold constL
     rw [if_neg k1, if_neg k2])
    clear k1 k2
    go_wp2
    go_roundw
    (case measure => simp [intOf]; omega)
    (case rel => first | exact ⟨k + 1, _, _, lk2, by go_num, by omega, HE, Aside0.mk (Mem.mid (A := [_, _]) M6.out)⟩ | ((repeat apply Exists.intro); exact ⟨⟨k + 1, _, _, lk2, by go_num, by omega, HE, Aside0.mk (Mem.mid (A := [_, _]) M6.out)⟩, rfl⟩))
 have hle : ¬ (k : Int) < (x.consts.length : Int) := by omega
 obtain rfl : k = x.consts.length := by omega
 have HA := Aside0.mk (show imgL2 x = lk ++ numsL [(x.funcs.length : Int)] from by rw [HLK.out]; rfl)
 clear hlt hk HLK
 go_upto_region 17 with fail
 have z0 := M1.out.box (.head _); have z1 := M1.out.box (.tail _ (.tail _ (.head _)))
 go_wp2_with fail
 have M3 := Aside0.mk (M1.out.allocAt rfl #[.int .i64 (x.funcs.length : Int)] 3)
 refine (cNumC [(x.funcs.length : Int)] (by intro n hn; rw [List.mem_singleton.1 hn]; omega) (by simp) _ _ _ _ _ _ _ _ (imgL2 x) (by omega) HA.out M3.out 1 1 rfl).mono ?_
 clear M3 M1
 rintro e w3 ⟨rfl, g, c, h⟩
 have M2 := Aside0.mk h; clear h
 clear z0 z1 HA hlk lk hle
 go_upto_region 18 with fail
 have z0 := M2.out.box (.tail _ (.tail _ (.head _)))
 go_upto_region 19 with fail
 clear z0
 go_loopw [96] (fun v wx => ∃ (k g c : Nat) (lk : List Int), v = .int .i64 k ∧ k ≤ x.funcs.length ∧ Aside0 (lk = imgL2 x ++ flatTo funcL x.funcs k) ∧ Aside0 (Mem w wx [Hold.box gw #[.slice (some ⟨g, 0, none⟩) (lk).length c] 160, Hold.bts g c (lk), Hold.box w.heap.size #[.slice A0 x.funcs.length c0, .slice A1 x.consts.length c1] 37])) (fun v _ => x.funcs.length - (intOf v).toNat)
 case atStart => exact ⟨0, g, c, imgL2 x, rfl, by omega, ⟨by rw [flatTo_zero, List.append_nil]⟩, M2⟩
 case round =>
 clear M2
 obtain ⟨k, g, c, lk, rfl, hk, HLK, M2⟩ := hrel
 by_cases klt : k < x.funcs.length
 ·skip
  have hlk : lk.length ≤ 70000 := by
   rw [HLK.out, List.length_append]
   have h1 := imgL2_len HI.out
   have h2 := funcTo_len HI.out k
   omega
  have hle : (k : Int) < (x.funcs.length : Int) := by omega
  have hk0 : (0 : Int) ≤ (k : Int) := by omega
  have HS := Aside0.mk (flatTo_succ zFunc funcL x.funcs klt)
  have OK := Aside0.mk (FOk.of (img_func HI.out (el_mem zFunc klt)))
  obtain ⟨af, A2, c2, A3, c3, A4, c4, haf, y0, y1, y2, y3, y4, ⟨l2, g2⟩, ⟨l3, g3⟩, ⟨l4, g4⟩⟩ := func_at6 G0.out k klt
  subst haf
  obtain ⟨fu, hfu⟩ : ∃ fu, fu = el zFunc x.funcs k := ⟨_, rfl⟩
  rw [← hfu] at HS OK y0 y1 y2 y3 y4 l2 g2 l3 g3 l4 g4
  clear hfu
  have y0 := pw_cell_below M2.out.below y0; have y1 := pw_cell_below M2.out.below y1; have y2 := pw_cell_below M2.out.below y2; have y3 := pw_cell_below M2.out.below y3; have y4 := pw_cell_below M2.out.below y4
  have G2 := Aside0.mk g2; have G3 := Aside0.mk g3; have G4 := Aside0.mk g4
  clear g2 g3 g4 l2 l3 l4
  obtain ⟨gf, hgf⟩ : ∃ gf : Nat, gf = wr.heap.size := ⟨_, rfl⟩
  have M3 := Aside0.mk (M2.out.allocAt hgf #[.int .i64 fu.params, .int .i64 fu.regs, .slice A2 fu.caps.length c2, .slice A3 fu.code.length c3, .slice A4 fu.handlers.length c4] 73).rot
  go_upto_region 21 with fail
  rw [← hgf]
  clear y0 y1 y2 y3 y4 M2 hgf
  generalize wr.alloc (.cells #[.int .i64 fu.params, .int .i64 fu.regs, .slice A2 fu.caps.length c2, .slice A3 fu.code.length c3, .slice A4 fu.handlers.length c4] 73) = wa at M3 ⊢
  have hp1 := OK.out.params; have hp2 := OK.out.regs; have hp3 := OK.out.caps
  have z0 := M3.out.box (.head _); have z1 := M3.out.box (.tail _ (.tail _ (.head _)))
  obtain ⟨lF1, hF1⟩ : ∃ lF1, lF1 = lk ++ funcL1 fu := ⟨_, rfl⟩
  have HF1 := Aside0.mk hF1; clear hF1
  have M9 := M3; clear M3
  go_wp2_with fail
  have M3 := Aside0.mk (M9.out.allocAt rfl #[.int .i64 fu.params, .int .i64 fu.regs, .int .i64 (fu.caps.length : Int)] 3)
  refine (cNumC [fu.params, fu.regs, (fu.caps.length : Int)] (by intro n hn; simp only [List.mem_cons, List.not_mem_nil, or_false] at hn; rcases hn with rfl | rfl | rfl <;> omega) (by simp) _ _ _ _ _ _ _ _ (lF1) (by omega) HF1.out M3.out 3 3 rfl).mono ?_
  clear M3 M9
  rintro e w3 ⟨rfl, g, c, h⟩
  have M4 := Aside0.mk h; clear h
  clear z0 z1
  have hlf1 : lF1.length ≤ 70015 := by
   rw [HF1.out, List.length_append]
   have := funcL1_len fu
   omega
  have z1 := M4.out.box (.tail _ (.tail _ (.head _)))
  go_upto_region 23 with fail
  clear z1
  go_loopw [113] (fun v wx => ∃ (j g c : Nat) (lj : List Int), v = .int .i64 j ∧ j ≤ fu.caps.length ∧ Aside0 (lj = lF1 ++ flatTo capL fu.caps j) ∧ Aside0 (Mem w wx [Hold.box gw #[.slice (some ⟨g, 0, none⟩) (lj).length c] 160, Hold.bts g c (lj), Hold.box gf #[.int .i64 fu.params, .int .i64 fu.regs, .slice A2 fu.caps.length c2, .slice A3 fu.code.length c3, .slice A4 fu.handlers.length c4] 73, Hold.box w.heap.size #[.slice (some af) x.funcs.length c0, .slice A1 x.consts.length c1] 37])) (fun v _ => fu.caps.length - (intOf v).toNat)
  case atStart => exact ⟨0, g, c, lF1, rfl, by omega, ⟨by rw [flatTo_zero, List.append_nil]⟩, M4⟩
  case round =>
  clear M4
  obtain ⟨j, g, c, lj, rfl, hj, HLJ, M4⟩ := hrel
  by_cases jlt : j < fu.caps.length
  ·skip
   have hlj : lj.length ≤ 70140 := by
    rw [HLJ.out, List.length_append]
    have h2 := flatTo_len capL fu.caps 6 (fun y _ => capL_len y) j
    omega
   have jle : (j : Int) < (fu.caps.length : Int) := by omega
   have hj0 : (0 : Int) ≤ (j : Int) := by omega
   have HSJ := Aside0.mk (flatTo_succ zCap capL fu.caps jlt)
   have hix := OK.out.cap _ (el_mem zCap jlt)
   obtain ⟨ap, hap, _, y0, y1⟩ := Cap_at (Kd.C_below G2.out M4.out.below) j jlt
   subst hap
   obtain ⟨ca, hca⟩ : ∃ ca, ca = el zCap fu.caps j := ⟨_, rfl⟩
   rw [← hca] at HSJ hix y0 y1
   clear hca
   obtain ⟨gp, hgp⟩ : ∃ gp : Nat, gp = wr.heap.size := ⟨_, rfl⟩
   have M5 := Aside0.mk (M4.out.allocAt hgp #[.bool ca.reg, .int .i64 ca.index] 105).rot
   go_upto_region 25 with fail
   rw [← hgp]
   clear y0 y1 M4 hgp
   generalize wr.alloc (.cells #[.bool ca.reg, .int .i64 ca.index] 105) = wb at M5 ⊢
   obtain ⟨vr, vi⟩ := ca
   simp only at hix M5 HSJ ⊢
   have zp := M5.out.box (.tail _ (.tail _ (.head _)))
   cases vr
   ·skip
    go_upto_region 28 with fail
    clear zp
    have z0 := M5.out.box (.head _); have f0 := M5.out.free (.head _)
    go_wp2_with (((with_reducible refine gate_builtin (b := .append) (xs := #[.tmp 123, .tmp 125]) rfl ?_); at_builtin; refine Aside0.out ?_))
    refine ⟨?_⟩
    have MA := Aside0.mk (M5.out.allocAt (g := wb.heap.size) rfl #[.int .u8 0] 5)
    refine bts_append (A := [_, _]) MA.out rfl (.tmp 123) (.tmp 125) 96 96 5 rfl Try.underlying96 (by kernel_rfl) (.slice (some ⟨wb.heap.size, 0, none⟩) 1 1) ?aV ?aX 1 [0] (Src.byte Try.underlying96 (MA.out.blk (.head _))) (by simp; omega) ?_
    (case aV => first | rfl | (go_simp; done) | (go_simp; rfl))
    (case aX => first | rfl | (go_simp; done) | (go_simp; rfl))
    intro g2 c22 W2 h
    have h := h.drop
    obtain ⟨lj2, hlj2⟩ : ∃ lj2, lj2 = lj ++ [0] := ⟨_, rfl⟩
    rw [← hlj2] at h ⊢
    have HL2 := Aside0.mk hlj2; clear hlj2
    have M6 := Aside0.mk h; clear h MA M5 z0 f0
    have z0 := M6.out.box (.head _); have f0 := M6.out.free (.head _)
    have M7 : Aside0 (Mem w (W2.setCell ⟨gw, 0, none⟩ (.slice (some ⟨g2, 0, none⟩) lj2.length c22)) [Hold.box gw #[.slice (some ⟨g2, 0, none⟩) (lj2).length c22] 160, Hold.bts g2 c22 (lj2), Hold.box gp #[.bool false, .int .i64 vi] 105, Hold.box gf #[.int .i64 fu.params, .int .i64 fu.regs, .slice (some ap) fu.caps.length c2, .slice A3 fu.code.length c3, .slice A4 fu.handlers.length c4] 73, Hold.box w.heap.size #[.slice (some af) x.funcs.length c0, .slice A1 x.consts.length c1] 37]) := ⟨Mem.set (A := []) M6.out 0 (.slice (some ⟨g2, 0, none⟩) lj2.length c22) rfl⟩
    clear M6
    go_upto_region 29 with fail
    clear z0 f0
    generalize W2.setCell ⟨gw, 0, none⟩ (.slice (some ⟨g2, 0, none⟩) lj2.length c22) = W3 at M7 ⊢
    have hlj2 : lj2.length ≤ 70141 := by rw [HL2.out, List.length_append]; simp; omega
    obtain ⟨lj3, hlj3⟩ : ∃ lj3, lj3 = lj2 ++ numsL [vi] := ⟨_, rfl⟩
    have HL3 := Aside0.mk hlj3; clear hlj3
    have HE := Aside0.mk (show lj3 = lF1 ++ flatTo capL fu.caps (j + 1) from by
     rw [HSJ.out, ← List.append_assoc, ← HLJ.out, HL3.out, HL2.out]
     simp [capL])
    have z1 := M7.out.box (.tail _ (.tail _ (.head _)))
    go_wp2_with fail
    have M3 := Aside0.mk (M7.out.allocAt rfl #[.int .i64 vi] 3)
    refine (cNumC [vi] (by intro n hn; rw [List.mem_singleton.1 hn]; omega) (by simp) _ _ _ _ _ _ _ _ (lj3) (by omega) HL3.out M3.out 1 1 rfl).mono ?_
    clear M3 M7
    rintro e w3 ⟨rfl, g, c, h⟩
    have M8 := Aside0.mk h; clear h
    clear z1
    go_wp2
    go_roundw
    (case measure => simp [intOf]; omega)
    (case rel => first | exact ⟨j + 1, _, _, lj3, by go_num, by omega, HE, Aside0.mk (Mem.mid (A := [_, _]) M8.out)⟩ | ((repeat apply Exists.intro); exact ⟨⟨j + 1, _, _, lj3, by go_num, by omega, HE, Aside0.mk (Mem.mid (A := [_, _]) M8.out)⟩, rfl⟩))
   ·skip
    go_upto_region 28 with fail
    clear zp
    have z0 := M5.out.box (.head _); have f0 := M5.out.free (.head _)
    go_wp2_with (((with_reducible refine gate_builtin (b := .append) (xs := #[.tmp 123, .tmp 125]) rfl ?_); at_builtin; refine Aside0.out ?_))
    refine ⟨?_⟩
    have MA := Aside0.mk (M5.out.allocAt (g := wb.heap.size) rfl #[.int .u8 1] 5)
    refine bts_append (A := [_, _]) MA.out rfl (.tmp 123) (.tmp 125) 96 96 5 rfl Try.underlying96 (by kernel_rfl) (.slice (some ⟨wb.heap.size, 0, none⟩) 1 1) ?aV ?aX 1 [1] (Src.byte Try.underlying96 (MA.out.blk (.head _))) (by simp; omega) ?_
    (case aV => first | rfl | (go_simp; done) | (go_simp; rfl))
    (case aX => first | rfl | (go_simp; done) | (go_simp; rfl))
    intro g2 c22 W2 h
    have h := h.drop
    obtain ⟨lj2, hlj2⟩ : ∃ lj2, lj2 = lj ++ [1] := ⟨_, rfl⟩
    rw [← hlj2] at h ⊢
    have HL2 := Aside0.mk hlj2; clear hlj2
    have M6 := Aside0.mk h; clear h MA M5 z0 f0
    have z0 := M6.out.box (.head _); have f0 := M6.out.free (.head _)
    have M7 : Aside0 (Mem w (W2.setCell ⟨gw, 0, none⟩ (.slice (some ⟨g2, 0, none⟩) lj2.length c22)) [Hold.box gw #[.slice (some ⟨g2, 0, none⟩) (lj2).length c22] 160, Hold.bts g2 c22 (lj2), Hold.box gp #[.bool true, .int .i64 vi] 105, Hold.box gf #[.int .i64 fu.params, .int .i64 fu.regs, .slice (some ap) fu.caps.length c2, .slice A3 fu.code.length c3, .slice A4 fu.handlers.length c4] 73, Hold.box w.heap.size #[.slice (some af) x.funcs.length c0, .slice A1 x.consts.length c1] 37]) := ⟨Mem.set (A := []) M6.out 0 (.slice (some ⟨g2, 0, none⟩) lj2.length c22) rfl⟩
    clear M6
    go_upto_region 29 with fail
    clear z0 f0
    generalize W2.setCell ⟨gw, 0, none⟩ (.slice (some ⟨g2, 0, none⟩) lj2.length c22) = W3 at M7 ⊢
    have hlj2 : lj2.length ≤ 70141 := by rw [HL2.out, List.length_append]; simp; omega
    obtain ⟨lj3, hlj3⟩ : ∃ lj3, lj3 = lj2 ++ numsL [vi] := ⟨_, rfl⟩
    have HL3 := Aside0.mk hlj3; clear hlj3
    have HE := Aside0.mk (show lj3 = lF1 ++ flatTo capL fu.caps (j + 1) from by
     rw [HSJ.out, ← List.append_assoc, ← HLJ.out, HL3.out, HL2.out]
     simp [capL])
    have z1 := M7.out.box (.tail _ (.tail _ (.head _)))
    go_wp2_with fail
    have M3 := Aside0.mk (M7.out.allocAt rfl #[.int .i64 vi] 3)
    refine (cNumC [vi] (by intro n hn; rw [List.mem_singleton.1 hn]; omega) (by simp) _ _ _ _ _ _ _ _ (lj3) (by omega) HL3.out M3.out 1 1 rfl).mono ?_
    clear M3 M7
    rintro e w3 ⟨rfl, g, c, h⟩
    have M8 := Aside0.mk h; clear h
    clear z1
    go_wp2
    go_roundw
    (case measure => simp [intOf]; omega)
    (case rel => first | exact ⟨j + 1, _, _, lj3, by go_num, by omega, HE, Aside0.mk (Mem.mid (A := [_, _]) M8.out)⟩ | ((repeat apply Exists.intro); exact ⟨⟨j + 1, _, _, lj3, by go_num, by omega, HE, Aside0.mk (Mem.mid (A := [_, _]) M8.out)⟩, rfl⟩))
  have jle : ¬ (j : Int) < (fu.caps.length : Int) := by omega
  obtain rfl : j = fu.caps.length := by omega
  clear jlt hj
  obtain ⟨lF2, hF2⟩ : ∃ lF2, lF2 = lj ++ numsL [(fu.code.length : Int)] := ⟨_, rfl⟩
  have HF2 := Aside0.mk (show lF2 = lk ++ funcL2 fu from by rw [hF2, HLJ.out, HF1.out]; simp [funcL2])
  have HA := Aside0.mk hF2; clear hF2
  have hlj : lj.length ≤ 70140 := by
   rw [HLJ.out, List.length_append]
   have h2 := flatTo_len capL fu.caps 6 (fun y _ => capL_len y) fu.caps.length
   omega
  clear HLJ
  have hp4 := OK.out.code
  go_upto_region 31 with fail
  have z0 := M4.out.box (.head _); have z1 := M4.out.box (.tail _ (.tail _ (.head _)))
  go_wp2_with fail
  have M3 := Aside0.mk (M4.out.allocAt rfl #[.int .i64 (fu.code.length : Int)] 3)
  refine (cNumC [(fu.code.length : Int)] (by intro n hn; rw [List.mem_singleton.1 hn]; omega) (by simp) _ _ _ _ _ _ _ _ (lF2) (by omega) HA.out M3.out 1 1 rfl).mono ?_
  clear M3 M4
  rintro e w3 ⟨rfl, g, c, h⟩
  have M5 := Aside0.mk h; clear h
  clear z0 z1 HA hlj lj jle
  have hlf2 : lF2.length ≤ 70200 := by
   rw [HF2.out, List.length_append]
   have := funcL2_len OK.out
   omega
  have z1 := M5.out.box (.tail _ (.tail _ (.head _)))
  go_upto_region 33 with fail
  clear z1
  go_loopw [144] (fun v wx => ∃ (j g c : Nat) (lj : List Int), v = .int .i64 j ∧ j ≤ fu.code.length ∧ Aside0 (lj = lF2 ++ flatTo insL fu.code j) ∧ Aside0 (Mem w wx [Hold.box gw #[.slice (some ⟨g, 0, none⟩) (lj).length c] 160, Hold.bts g c (lj), Hold.box gf #[.int .i64 fu.params, .int .i64 fu.regs, .slice A2 fu.caps.length c2, .slice A3 fu.code.length c3, .slice A4 fu.handlers.length c4] 73, Hold.box w.heap.size #[.slice (some af) x.funcs.length c0, .slice A1 x.consts.length c1] 37])) (fun v _ => fu.code.length - (intOf v).toNat)
  case atStart => exact ⟨0, g, c, lF2, rfl, by omega, ⟨by rw [flatTo_zero, List.append_nil]⟩, M5⟩
  case round =>
  clear M5
  obtain ⟨j, g, c, lj, rfl, hj, HLJ, M5⟩ := hrel
  by_cases jlt : j < fu.code.length
  ·skip
   have hlj : lj.length ≤ 73600 := by
    rw [HLJ.out, List.length_append]
    have h2 := flatTo_len insL fu.code 11 (fun y _ => insL_len y) j
    omega
   have jle : (j : Int) < (fu.code.length : Int) := by omega
   have hj0 : (0 : Int) ≤ (j : Int) := by omega
   have HSJ := Aside0.mk (flatTo_succ zIns insL fu.code jlt)
   have hix := OK.out.ins _ (el_mem zIns jlt)
   obtain ⟨ap, hap, _, y0, y1, y2⟩ := Ins_at (Kd.C_below G3.out M5.out.below) j jlt
   subst hap
   obtain ⟨ca, hca⟩ : ∃ ca, ca = el zIns fu.code j := ⟨_, rfl⟩
   rw [← hca] at HSJ hix y0 y1 y2
   clear hca
   obtain ⟨gc, hgc⟩ : ∃ gc : Nat, gc = wr.heap.size := ⟨_, rfl⟩
   have M6 := Aside0.mk (M5.out.allocAt hgc #[.int .i64 ca.op, .int .i64 ca.a, .int .i64 ca.b] 76).rot
   go_upto_region 35 with fail
   rw [← hgc]
   clear y0 y1 y2 M5 hgc
   generalize wr.alloc (.cells #[.int .i64 ca.op, .int .i64 ca.a, .int .i64 ca.b] 76) = wb at M6 ⊢
   obtain ⟨lk2, hlk2⟩ : ∃ lk2, lk2 = lj ++ [ca.op % 256] := ⟨_, rfl⟩
   have HL2 := Aside0.mk hlk2; clear hlk2
   refine sz 13 (fun W => W.cell? ⟨gw, 0, none⟩ = some (.slice (some ⟨g, 0, none⟩) lj.length c) ∧ W.cell? ⟨gc, 0, none⟩ = some (.int .i64 ca.op)) [9, 12] ibI.tab35 ibI.bits35 ⟨(M6.out.drew.box (.head _) 0).trans rfl, (M6.out.drew.box (.tail _ (.tail _ (.head _))) 0).trans rfl⟩ (fun HT_ HW_ hHeld => ?_)
   have MD := Aside0.mk M6.out.drew
   clear M6
   generalize hwd : World.drew _ = wd at MD hHeld ⊢
   clear hwd
   refine pz 0 148 ?_; refine pz 1 149 ?_; refine pz 2 150 ?_; refine pz 3 151 ?_; refine pz 5 153 ?_; refine tz 4 152 ?_; refine tz 6 154 ?_; refine pz 7 155 ?_
   refine ez 8 (some 156) (fun K hK => ?_)
   refine value_ (w1 := ?_) (v := ?_) (by rfl) rfl ?_ ?_
   rotate_left 2
   ·go_simp
    constructor
    ·rfl
    ·rfl
   refine hK.out _ _ ⟨((MD.out.step (below_alloc (Below.refl _ _) _)).box (.head _) 0).trans rfl, ((MD.out.step (below_alloc (Below.refl _ _) _)).box (.tail _ (.tail _ (.head _))) 0).trans rfl⟩ (fun hHeld => ?_); clear hK K; refine kz (some 156) ?_
   refine lz 9 (some 157) (fun K hK => ?_)
   have MA := Aside0.mk (MD.out.allocAt (g := wd.heap.size) rfl #[.int .u8 (ca.op % 256)] 5)
   refine bts_append_step (A := [_, _]) MA.out (by rfl) (.tmp 152) (.tmp 156) 96 96 5 rfl Try.underlying96 (by kernel_rfl) (.slice (some ⟨wd.heap.size, 0, none⟩) 1 1) ?aV ?aX 1 [ca.op % 256] (Src.byte Try.underlying96 (MA.out.blk (.head _))) (by simp; omega) ?_
   (case aV => first | rfl | (go_simp; done) | (go_simp; rfl))
   (case aX => first | rfl | (go_simp; done) | (go_simp; rfl))
   intro g2 cq2 W2 h
   have h := h.drop
   rw [← HL2.out] at h ⊢
   have M5 := Aside0.mk h
   clear h MD
   refine hK.out _ _ ?_; clear hK K; refine kz (some 157) ?_
   refine pz 10 158 ?_; refine pz 11 159 ?_
   refine lz 12 none (fun K hK => ?_)
   have b0 := M5.out.box (.head _); have b1 := M5.out.free (.head _)
   refine skip_ (w1 := ?_) (by rfl) rfl ?_ ?_
   rotate_left
   ·go_simp
    rfl
   clear b0 b1
   refine hK.out _ _ ?_; clear hK K
   refine dz ?_
   clear hHeld HT_ HW_
   have M6 : Aside0 (Mem w (W2.setCell ⟨gw, 0, none⟩ (.slice (some ⟨g2, 0, none⟩) lk2.length cq2)) [Hold.box gw #[.slice (some ⟨g2, 0, none⟩) (lk2).length cq2] 160, Hold.bts g2 cq2 (lk2), Hold.box gc #[.int .i64 ca.op, .int .i64 ca.a, .int .i64 ca.b] 76, Hold.box gf #[.int .i64 fu.params, .int .i64 fu.regs, .slice A2 fu.caps.length c2, .slice (some ap) fu.code.length c3, .slice A4 fu.handlers.length c4] 73, Hold.box w.heap.size #[.slice (some af) x.funcs.length c0, .slice A1 x.consts.length c1] 37]) := ⟨Mem.set (A := []) M5.out 0 (.slice (some ⟨g2, 0, none⟩) lk2.length cq2) rfl⟩; clear M5
   generalize W2.setCell ⟨gw, 0, none⟩ (.slice (some ⟨g2, 0, none⟩) lk2.length cq2) = W3 at M6 ⊢
   have hl2 : lk2.length ≤ 73601 := by rw [HL2.out, List.length_append]; simp; omega
   obtain ⟨lj3, hlj3⟩ : ∃ lj3, lj3 = lk2 ++ numsL [ca.a, ca.b] := ⟨_, rfl⟩
   have HL3 := Aside0.mk hlj3; clear hlj3
   have HE := Aside0.mk (show lj3 = lF2 ++ flatTo insL fu.code (j + 1) from by
    rw [HSJ.out, ← List.append_assoc, ← HLJ.out, HL3.out, HL2.out]
    simp [insL])
   go_upto_region 36 with fail
   have z1 := M6.out.box (.tail _ (.tail _ (.head _)))
   go_wp2_with fail
   have M3 := Aside0.mk (M6.out.allocAt rfl #[.int .i64 ca.a, .int .i64 ca.b] 3)
   refine (cNumC [ca.a, ca.b] (by intro n hn; simp only [List.mem_cons, List.not_mem_nil, or_false] at hn; rcases hn with rfl | rfl <;> omega) (by simp) _ _ _ _ _ _ _ _ (lj3) (by omega) HL3.out M3.out 2 2 rfl).mono ?_
   clear M3 M6
   rintro e w3 ⟨rfl, g, c, h⟩
   have M7 := Aside0.mk h; clear h
   clear z1
   go_wp2
   go_roundw
   (case measure => simp [intOf]; omega)
   (case rel => first | exact ⟨j + 1, _, _, lj3, by go_num, by omega, HE, Aside0.mk (Mem.mid (A := [_, _]) M7.out)⟩ | ((repeat apply Exists.intro); exact ⟨⟨j + 1, _, _, lj3, by go_num, by omega, HE, Aside0.mk (Mem.mid (A := [_, _]) M7.out)⟩, rfl⟩))
  have jle : ¬ (j : Int) < (fu.code.length : Int) := by omega
  obtain rfl : j = fu.code.length := by omega
  clear jlt hj
  obtain ⟨lF3, hF3⟩ : ∃ lF3, lF3 = lj ++ numsL [(fu.handlers.length : Int)] := ⟨_, rfl⟩
  have HF3 := Aside0.mk (show lF3 = lk ++ funcL3 fu from by rw [hF3, HLJ.out, HF2.out]; simp [funcL3])
  have HA := Aside0.mk hF3; clear hF3
  have hlj : lj.length ≤ 73600 := by
   rw [HLJ.out, List.length_append]
   have h2 := flatTo_len insL fu.code 11 (fun y _ => insL_len y) fu.code.length
   omega
  clear HLJ
  have hp5 := OK.out.hands
  go_upto_region 38 with fail
  have z0 := M5.out.box (.head _); have z1 := M5.out.box (.tail _ (.tail _ (.head _)))
  go_wp2_with fail
  have M3 := Aside0.mk (M5.out.allocAt rfl #[.int .i64 (fu.handlers.length : Int)] 3)
  refine (cNumC [(fu.handlers.length : Int)] (by intro n hn; rw [List.mem_singleton.1 hn]; omega) (by simp) _ _ _ _ _ _ _ _ (lF3) (by omega) HA.out M3.out 1 1 rfl).mono ?_
  clear M3 M5
  rintro e w3 ⟨rfl, g, c, h⟩
  have M6 := Aside0.mk h; clear h
  clear z0 z1 HA hlj lj jle
  have hlf3 : lF3.length ≤ 73500 := by
   rw [HF3.out, List.length_append]
   have := funcL3_len OK.out
   omega
  have z1 := M6.out.box (.tail _ (.tail _ (.head _)))
  go_upto_region 40 with fail
  clear z1
  go_loopw [177] (fun v wx => ∃ (j g c : Nat) (lj : List Int), v = .int .i64 j ∧ j ≤ fu.handlers.length ∧ Aside0 (lj = lF3 ++ flatTo handL fu.handlers j) ∧ Aside0 (Mem w wx [Hold.box gw #[.slice (some ⟨g, 0, none⟩) (lj).length c] 160, Hold.bts g c (lj), Hold.box gf #[.int .i64 fu.params, .int .i64 fu.regs, .slice A2 fu.caps.length c2, .slice A3 fu.code.length c3, .slice A4 fu.handlers.length c4] 73, Hold.box w.heap.size #[.slice (some af) x.funcs.length c0, .slice A1 x.consts.length c1] 37])) (fun v _ => fu.handlers.length - (intOf v).toNat)
  case atStart => exact ⟨0, g, c, lF3, rfl, by omega, ⟨by rw [flatTo_zero, List.append_nil]⟩, M6⟩
  case round =>
  clear M6
  obtain ⟨j, g, c, lj, rfl, hj, HLJ, M6⟩ := hrel
  by_cases jlt : j < fu.handlers.length
  ·skip
   have hlj : lj.length ≤ 74200 := by
    rw [HLJ.out, List.length_append]
    have h2 := flatTo_len handL fu.handlers 15 (fun y _ => handL_len y) j
    omega
   have jle : (j : Int) < (fu.handlers.length : Int) := by omega
   have hj0 : (0 : Int) ≤ (j : Int) := by omega
   have HSJ := Aside0.mk (flatTo_succ zHandler handL fu.handlers jlt)
   have hix := OK.out.hand _ (el_mem zHandler jlt)
   obtain ⟨ap, hap, _, y0, y1, y2⟩ := Handler_at (Kd.C_below G4.out M6.out.below) j jlt
   subst hap
   obtain ⟨ca, hca⟩ : ∃ ca, ca = el zHandler fu.handlers j := ⟨_, rfl⟩
   rw [← hca] at HSJ hix y0 y1 y2
   clear hca
   obtain ⟨gc, hgc⟩ : ∃ gc : Nat, gc = wr.heap.size := ⟨_, rfl⟩
   have M7 := Aside0.mk (M6.out.allocAt hgc #[.int .i64 ca.from_, .int .i64 ca.to_, .int .i64 ca.target] 107).rot
   go_upto_region 42 with fail
   rw [← hgc]
   clear y0 y1 y2 M6 hgc
   generalize wr.alloc (.cells #[.int .i64 ca.from_, .int .i64 ca.to_, .int .i64 ca.target] 107) = wb at M7 ⊢
   obtain ⟨lj3, hlj3⟩ : ∃ lj3, lj3 = lj ++ numsL [ca.from_, ca.to_, ca.target] := ⟨_, rfl⟩
   have HL3 := Aside0.mk hlj3; clear hlj3
   have HE := Aside0.mk (show lj3 = lF3 ++ flatTo handL fu.handlers (j + 1) from by
    rw [HSJ.out, ← List.append_assoc, ← HLJ.out, HL3.out]
    rfl)
   have z1 := M7.out.box (.tail _ (.tail _ (.head _)))
   go_wp2_with fail
   have M3 := Aside0.mk (M7.out.allocAt rfl #[.int .i64 ca.from_, .int .i64 ca.to_, .int .i64 ca.target] 3)
   refine (cNumC [ca.from_, ca.to_, ca.target] (by intro n hn; simp only [List.mem_cons, List.not_mem_nil, or_false] at hn; rcases hn with rfl | rfl | rfl <;> omega) (by simp) _ _ _ _ _ _ _ _ (lj3) (by omega) HL3.out M3.out 3 3 rfl).mono ?_
   clear M3 M7
   rintro e w3 ⟨rfl, g, c, h⟩
   have M8 := Aside0.mk h; clear h
   clear z1
   go_wp2
   go_roundw
   (case measure => simp [intOf]; omega)
   (case rel => first | exact ⟨j + 1, _, _, lj3, by go_num, by omega, HE, Aside0.mk (Mem.mid (A := [_, _]) M8.out)⟩ | ((repeat apply Exists.intro); exact ⟨⟨j + 1, _, _, lj3, by go_num, by omega, HE, Aside0.mk (Mem.mid (A := [_, _]) M8.out)⟩, rfl⟩))
  have jle : ¬ (j : Int) < (fu.handlers.length : Int) := by omega
  obtain rfl : j = fu.handlers.length := by omega
  have HE := Aside0.mk (show lj = imgL2 x ++ flatTo funcL x.funcs (k + 1) from by
   rw [HLJ.out, HF3.out, HS.out, HLK.out]
   simp [funcL])
  go_wp2
  go_roundw
  (case measure => simp [intOf]; omega)
  (case rel => first | exact ⟨k + 1, _, _, lj, by go_num, by omega, HE, Aside0.mk (Mem.mid (A := [_, _]) M6.out)⟩ | ((repeat apply Exists.intro); exact ⟨⟨k + 1, _, _, lj, by go_num, by omega, HE, Aside0.mk (Mem.mid (A := [_, _]) M6.out)⟩, rfl⟩))
 have hle : ¬ (k : Int) < (x.funcs.length : Int) := by omega
 obtain rfl : k = x.funcs.length := by omega
 have hlk : lk.length ≤ 70000 := by
  rw [HLK.out, List.length_append]
  have h1 := imgL2_len HI.out
  have h2 := funcTo_len HI.out x.funcs.length
  omega
 have z0 := M2.out.box (.head _)
 have ks := Kd.C_string (P := Try.prog) (src := 96) (dst := 9) (e := 5) (c := c) Try.underlying96 Try.underlying5 Try.underlying9 ((M2.out.bts (.tail _ (.head _))).reads (by omega))
 have HR := Aside0.mk (show lk = imgL x from HLK.out)
 go_wp2
 go_ret
 exact ⟨by rw [← HR.out]; rfl, M2.out.below⟩
end Go.Proofs.Ytcbaokflimdjnaa.Law
end
section
namespace Go.Proofs.Ytcbaokflimdjnaa.Law
open Go.RowKit Go.Proofs.YtcbaokflimdjnaaW.PrintWords Go.Proofs.YtcbaokflimdjnaaW.PrintLast Go.Proofs.Ytcbaokflimdjnaa.Steps Go.Proofs.YtcbaokflimdjnaaW.PrintMore Go.Proofs.Ytcbaokflimdjnaa.Num Go.Proofs.Ytcbaokflimdjnaa
theorem Src.btsN {P : Program} {W : World} {tx e : TypeId} (hk : P.underlying tx = some (.slice e)) {g c c2 n : Nat} {l : List Int} (h : Bts W g c l) (hn : n = l.length) : Src P 1 tx (.slice (some ⟨g, 0, none⟩) n c2) n (nums .u8 l) W := by
 subst hn
 exact Src.bts hk h
theorem conv_str (W : World) (s : ByteArray) : ∃ c W2, (convert 9 96 (.string s)).run Try.prog W = .ok (.slice (some ⟨W.heap.size, 0, none⟩) s.size c) W2 ∧ ∀ (w : World) (H : List Hold), Mem w W H → Mem w W2 (Hold.bts W.heap.size c (bytesOf s) :: H) :=
 ⟨_, _, run_bytes_of_string W 9 96 5 s Try.underlying9 Try.underlying96 Try.underlying5, fun w H M => M.conv s _ _ (grownCap_ge W s.size 0 _)⟩
def imgR (x : Image) (t : ByteArray) (b : Bool) : ByteArray × Bool := if imgB x = true then (if ((imgL x).length : Int) + 4 > 12000 then (⟨#[]⟩, false) else (t, b)) else (⟨#[]⟩, false)
def ibS.T18 : Bool × List (List Nat × List Nat) := (true, [([], []), ([], []), ([1], [1]), ([2], [2]), ([], []), ([4], [4]), ([5, 3], [5]), ([3, 6], [3, 6]), ([], []), ([8], [8]), ([9], [9]), ([10, 6], [10]), ([7, 11], [7, 11]), ([12], [12]), ([0, 13, 11], [0, 13]), ([14, 14, 0, 1, 2, 3, 4, 5, 6, 7, 8, 9, 10, 11, 12, 13, 14], [0, 14])])
def ibS.B18 : List Nat := [0, 0, 2, 6, 0, 16, 62, 126, 0, 256, 768, 1918, 4094, 8190, 16383, 32767]
theorem ibS.tab18 : rtab .any (opsOf Try.f45 18) = ibS.T18 := by kernel_rfl
theorem ibS.bits18 : waitsOk ibS.T18.2 ibS.B18 = true := by kernel_rfl
def ibS.T22 : Bool × List (List Nat × List Nat) := (true, [([], []), ([], []), ([1], [1]), ([], []), ([2, 3], [2, 3]), ([4], [4]), ([5], [5]), ([6], [6]), ([], []), ([8], [8]), ([], []), ([9, 10], [9, 10]), ([11], [11]), ([12], [12]), ([13, 7], [13]), ([7, 14], [7, 14]), ([15], [15]), ([0, 16, 14], [0, 16]), ([17, 17, 0, 1, 2, 3, 4, 5, 6, 7, 8, 9, 10, 11, 12, 13, 14, 15, 16, 17], [0, 17])])
def ibS.B22 : List Nat := [0, 0, 2, 0, 14, 30, 62, 126, 0, 256, 0, 1792, 3840, 7936, 16382, 32766, 65534, 131071, 262143]
theorem ibS.tab22 : rtab .any (opsOf Try.f45 22) = ibS.T22 := by kernel_rfl
theorem ibS.bits22 : waitsOk ibS.T22.2 ibS.B22 = true := by kernel_rfl
def ibS.T28 : Bool × List (List Nat × List Nat) := (true, [([], []), ([], []), ([1], [1]), ([], []), ([2, 3], [2, 3]), ([4], [4]), ([5], [5]), ([6], [6]), ([], []), ([8], [8]), ([], []), ([9, 10], [9, 10]), ([11], [11]), ([12], [12]), ([13, 7], [13]), ([7, 14], [7, 14]), ([15], [15]), ([0, 16, 14], [0, 16]), ([17, 17, 0, 1, 2, 3, 4, 5, 6, 7, 8, 9, 10, 11, 12, 13, 14, 15, 16, 17], [0, 17])])
def ibS.B28 : List Nat := [0, 0, 2, 0, 14, 30, 62, 126, 0, 256, 0, 1792, 3840, 7936, 16382, 32766, 65534, 131071, 262143]
theorem ibS.tab28 : rtab .any (opsOf Try.f45 28) = ibS.T28 := by kernel_rfl
theorem ibS.bits28 : waitsOk ibS.T28.2 ibS.B28 = true := by kernel_rfl
def ibS.T34 : Bool × List (List Nat × List Nat) := (true, [([], []), ([], []), ([1], [1]), ([2], [2]), ([], []), ([4], [4]), ([5, 3], [5]), ([3, 6], [3, 6]), ([], []), ([8], [8]), ([9, 6], [9]), ([7, 10], [7, 10]), ([11], [11]), ([0, 12, 10], [0, 12]), ([13, 13, 0, 1, 2, 3, 4, 5, 6, 7, 8, 9, 10, 11, 12, 13], [0, 13])])
def ibS.B34 : List Nat := [0, 0, 2, 6, 0, 16, 62, 126, 0, 256, 894, 2046, 4094, 8191, 16383]
theorem ibS.tab34 : rtab .any (opsOf Try.f45 34) = ibS.T34 := by kernel_rfl
theorem ibS.bits34 : waitsOk ibS.T34.2 ibS.B34 = true := by kernel_rfl
set_option maxHeartbeats 2000000 in
set_option maxRecDepth 100000 in
theorem cImgS (x : Image) (t : ByteArray) (b : Bool) (A0 : Option Addr) (c0 : Nat) (A1 : Option Addr) (c1 : Nat) (w : World) (hs : ∀ w : World, Calls Try.prog 78 #[.string (strOfNums (imgL x))] w fun e w' => e = .returned (.tuple #[.string t, .bool b]) ∧ Below w.heap.size w w') (l0 : x.funcs.length ≤ c0) (g0 : kFuncI.C w A0 x.funcs.length x.funcs) (l1 : x.consts.length ≤ c1) (g1 : kConst.C w A1 x.consts.length x.consts) (hn : ∀ y ∈ x.consts, 0 ≤ y.num ∧ y.num < 18446744073709551616) :
  Calls Try.prog 45 #[.agg #[.slice A0 x.funcs.length c0, .slice A1 x.consts.length c1]] w fun e w' => e = .returned (.tuple #[.string (imgR x t b).1, .bool (imgR x t b).2]) ∧ Below w.heap.size w w' := by
 have hu0 := Try.underlying37; have hu1 := Try.underlying96; have hu2 := Try.underlying5; have hu3 := Try.underlying100; have hu4 := Try.underlying73; have hu5 := Try.underlying105; have hu6 := Try.underlying76; have hu7 := Try.underlying107; have hu8 := Try.underlying35; have hu9 := Try.underlying34; have hu10 := Try.underlying69; have hu11 := Try.underlying70; have hu12 := Try.underlying71; have hu13 := Try.underlying3; have hu14 := Try.underlying98; have hu15 := Try.underlying9
 have G0 := Aside0.mk g0; have G1 := Aside0.mk g1; have HN := Aside0.mk hn; have L0 := Aside0.mk l0; have L1 := Aside0.mk l1; have HSE := Aside0.mk hs
 clear g0 g1 hn l0 l1 hs
 have M0 := Aside0.mk ((Mem.start w).allocAt rfl #[.slice A0 x.funcs.length c0, .slice A1 x.consts.length c1] 37)
 have z := M0.out.box (.head _)
 go_enter Try.func45, Try.ntmps45
 go_wp2_with fail
 refine (cImageOkS x A0 c0 A1 c1 _ L0.out (Kd.C_below G0.out M0.out.below) L1.out (Kd.C_below G1.out M0.out.below) HN.out).mono ?_
 rintro e w1 ⟨rfl, hb⟩
 have M1 := Aside0.mk (M0.out.step hb); clear hb M0 z
 rcases Bool.eq_false_or_eq_true (imgB x) with hi | hi
 rotate_left
 ·rw [hi]
  have HR := Aside0.mk (show imgR x t b = (⟨#[]⟩, false) from if_neg (by rw [hi]; decide))
  clear hi
  go_wp2
  go_ret2
  exact ⟨by rw [HR.out]; rfl, M1.out.below⟩
 rw [hi]
 have HI := Aside0.mk hi
 have HR := Aside0.mk (show imgR x t b = if ((imgL x).length : Int) + 4 > 12000 then (⟨#[]⟩, false) else (t, b) from if_pos hi)
 have hln := img_len hi
 clear hi
 have z1 := M1.out.box (.head _)
 go_upto_region 3 with fail
 go_wp2_with fail
 refine (cVarS (x.consts.length : Int) _ (by omega) (by omega)).mono ?_
 rintro e w2 ⟨rfl, hb⟩
 have M2 := Aside0.mk (M1.out.step hb); clear hb M1
 clear z1
 have hv := varB_size (x.consts.length : Int)
 have hc3 : (⟨#[83, 67, 49]⟩ : ByteArray).size = 3 := rfl
 have hcv : (⟨#[83, 67, 49]⟩ : ByteArray).size + (varB (x.consts.length : Int)).size ≤ 9223372036854775807 := by omega
 obtain ⟨cc, Wc, hkc, hM⟩ := conv_str w2 (⟨#[83, 67, 49]⟩ ++ varB (x.consts.length : Int))
 have M3 := Aside0.mk (hM _ _ M2.out); clear hM M2
 go_upto_region 5 with fail
 clear hkc hc3 hcv
 have hb1 : bytesOf ((⟨#[83, 67, 49]⟩ : ByteArray) ++ varB (x.consts.length : Int)) = imgL1 x := by
  rw [bytes_app]
  simp [imgL1, numsL]
  rfl
 have hb2 : 3 + (varB (x.consts.length : Int)).size = (imgL1 x).length := by rw [← hb1, bytesOf_length, ByteArray.size_append]; rfl
 rw [hb1] at M3
 rw [hb2]
 clear hb1 hb2
 go_loopw [4, 5] (fun u v wx => ∃ (k g c : Nat) (lk : List Int), u = .slice (some ⟨g, 0, none⟩) lk.length c ∧ v = .int .i64 k ∧ k ≤ x.consts.length ∧ Aside0 (lk = imgL1 x ++ flatTo constL x.consts k) ∧ Aside0 (Mem w wx [Hold.bts g c (lk), Hold.box w.heap.size #[.slice A0 x.funcs.length c0, .slice A1 x.consts.length c1] 37])) (fun _ v _ => x.consts.length - (intOf v).toNat)
 case atStart => exact ⟨0, _, _, imgL1 x, rfl, rfl, by omega, ⟨by rw [flatTo_zero, List.append_nil]⟩, M3⟩
 case round =>
 clear M3
 obtain ⟨k, g, c, lk, rfl, rfl, hk, HLK, M3⟩ := hrel
 by_cases klt : k < x.consts.length
 ·skip
  have hlk : lk.length ≤ 2000 := by
   rw [HLK.out, List.length_append]
   have h1 := imgL1_len x
   have h2 := constTo_len HI.out k
   omega
  have hle : (k : Int) < (x.consts.length : Int) := by omega
  have hk0 : (0 : Int) ≤ (k : Int) := by omega
  have HS := Aside0.mk (flatTo_succ zConst constL x.consts klt)
  have hnum := HN.out _ (el_mem zConst klt)
  have htx := img_const HI.out (el_mem zConst klt)
  obtain ⟨ac, hac, _, y0, y1, y2⟩ := Const_at (Kd.C_below G1.out M3.out.below) k klt
  subst hac
  obtain ⟨co, hco⟩ : ∃ co, co = el zConst x.consts k := ⟨_, rfl⟩
  rw [← hco] at HS hnum htx y0 y1 y2
  clear hco
  have zx := M3.out.box (.tail _ (.head _))
  obtain ⟨gc, hgc⟩ : ∃ gc : Nat, gc = wr.heap.size := ⟨_, rfl⟩
  have M4 := Aside0.mk (M3.out.allocAt hgc #[.int .i64 co.kind, .int .u64 co.num, .string co.text] 100).swap2
  go_upto_region 8 with fail
  rw [← hgc]
  clear y0 y1 y2 M3 hgc zx
  generalize wr.alloc (.cells #[.int .i64 co.kind, .int .u64 co.num, .string co.text] 100) = wa at M4 ⊢
  have z0 := M4.out.box (.tail _ (.head _))
  obtain ⟨la, hla⟩ : ∃ la, la = lk ++ [co.kind % 256] := ⟨_, rfl⟩
  have HLA := Aside0.mk hla; clear hla
  go_wp2_with (((with_reducible refine gate_builtin (b := .append) (xs := #[.tmp 34, .tmp 38]) rfl ?_); at_builtin; refine Aside0.out ?_))
  refine ⟨?_⟩
  have MA := Aside0.mk (M4.out.allocAt (g := (wa).heap.size) rfl #[.int .u8 (co.kind % 256)] 5)
  refine bts_append (A := [_]) MA.out rfl (.tmp 34) (.tmp 38) 96 96 5 rfl Try.underlying96 (by kernel_rfl) (.slice (some ⟨(wa).heap.size, 0, none⟩) 1 1) ?aV ?aX 1 [co.kind % 256] (Src.byte Try.underlying96 (MA.out.blk (.head _))) (by simp; omega) ?_
  (case aV => first | rfl | (go_simp; done) | (go_simp; rfl))
  (case aX => first | rfl | (go_simp; done) | (go_simp; rfl))
  intro g2 cq2 W2 h
  have h := h.drop
  rw [← (HLA.out)] at h ⊢
  have M5 := Aside0.mk h; clear h MA M4
  clear z0
  have hla : la.length ≤ 2001 := by rw [HLA.out, List.length_append]; simp; omega
  have z0 := M5.out.box (.tail _ (.head _))
  by_cases k1 : co.kind = 1
  ·have q1 : (co.kind == 1) = true := by simp [k1]
   have q2 : (co.kind == 2) = false := by simp [k1]
   have h8l := eight_len co.num 8
   have h8 := bytes_nums _ (eight_in co.num 8)
   have HE0 := Aside0.mk (show imgL1 x ++ flatTo constL x.consts (k + 1) = la ++ bytesOf (strOfNums (eightTo co.num 8)) from by
    rw [HS.out, ← List.append_assoc, ← HLK.out, HLA.out, h8]
    unfold constL
    rw [if_pos k1, List.append_assoc]
    rfl)
   clear k1 htx
   go_upto_region 10 with fail
   go_wp2_with fail
   refine (cEight co.num hnum.1 hnum.2 _).mono ?_
   rintro e w3 ⟨rfl, hb⟩
   have M6 := Aside0.mk (M5.out.step hb); clear hb M5
   obtain ⟨lb, hlb⟩ : ∃ lb, lb = la ++ bytesOf (strOfNums (eightTo co.num 8)) := ⟨_, rfl⟩
   have HLB := Aside0.mk hlb; clear hlb
   clear z0
   have hs8 : (strOfNums (eightTo co.num 8)).size = 8 := by rw [strOfNums_size, h8l]
   have z0 := M6.out.box (.tail _ (.head _))
   obtain ⟨cc, Wc, hkc, hM⟩ := conv_str w3 (strOfNums (eightTo co.num 8))
   have MA := Aside0.mk (hM _ _ M6.out); clear hM
   go_wp2_with (((with_reducible refine gate_builtin (b := .append) (xs := #[.tmp 43, .tmp 47]) rfl ?_); at_builtin; refine Aside0.out ?_))
   refine ⟨?_⟩
   refine bts_append (A := [_]) MA.out rfl (.tmp 43) (.tmp 47) 96 96 5 rfl Try.underlying96 (by kernel_rfl) (.slice (some ⟨(w3).heap.size, 0, none⟩) (strOfNums (eightTo co.num 8)).size cc) ?aV ?aX _ _ (Src.btsN Try.underlying96 (MA.out.bts (.head _)) (bytesOf_length _).symm) (by rw [bytesOf_length]; omega) ?_
   (case aV => first | rfl | (go_simp; done) | (go_simp; rfl))
   (case aX => first | rfl | (go_simp; done) | (go_simp; rfl))
   intro g2 cq2 W2 h
   have h := h.drop
   rw [← (HLB.out)] at h ⊢
   have M7 := Aside0.mk h; clear h MA hkc M6
   clear z0
   have z0 := M7.out.box (.tail _ (.head _))
   have HE := Aside0.mk (show lb = imgL1 x ++ flatTo constL x.consts (k + 1) from by rw [HE0.out, HLB.out])
   go_wp2
   go_roundw
   (case measure => simp [intOf]; omega)
   (case rel => first | exact ⟨k + 1, _, _, lb, rfl, by go_num, by omega, HE, Aside0.mk (Mem.mid (A := [_]) M7.out)⟩ | ((repeat apply Exists.intro); exact ⟨⟨k + 1, _, _, lb, rfl, by go_num, by omega, HE, Aside0.mk (Mem.mid (A := [_]) M7.out)⟩, rfl⟩))
  ·have q1 : (co.kind == 1) = false := by simp [k1]
   by_cases k2 : co.kind = 2
   ·have q2 : (co.kind == 2) = true := by simp [k2]
    have HE0 := Aside0.mk (show la ++ bytesOf (varB (co.text.size : Int) ++ co.text) = imgL1 x ++ flatTo constL x.consts (k + 1) from by
     rw [HS.out, ← List.append_assoc (imgL1 x), ← HLK.out, HLA.out, bytes_app]
     unfold constL
     rw [if_neg k1, if_pos k2]
     simp)
    clear k1 k2
    go_upto_region 12 with fail
    go_wp2_with fail
    refine (cShort co.text (by omega) _).mono ?_
    rintro e w3 ⟨rfl, hb⟩
    have M6 := Aside0.mk (M5.out.step hb); clear hb M5
    obtain ⟨lb, hlb⟩ : ∃ lb, lb = la ++ bytesOf (varB (co.text.size : Int) ++ co.text) := ⟨_, rfl⟩
    have HLB := Aside0.mk hlb; clear hlb
    clear z0
    have hvs := varB_size (co.text.size : Int)
    have hsz : (varB (co.text.size : Int) ++ co.text).size ≤ 50 := by rw [ByteArray.size_append]; omega
    have z0 := M6.out.box (.tail _ (.head _))
    obtain ⟨cc, Wc, hkc, hM⟩ := conv_str w3 (varB (co.text.size : Int) ++ co.text)
    have MA := Aside0.mk (hM _ _ M6.out); clear hM
    go_wp2_with (((with_reducible refine gate_builtin (b := .append) (xs := #[.tmp 52, .tmp 56]) rfl ?_); at_builtin; refine Aside0.out ?_))
    refine ⟨?_⟩
    refine bts_append (A := [_]) MA.out rfl (.tmp 52) (.tmp 56) 96 96 5 rfl Try.underlying96 (by kernel_rfl) (.slice (some ⟨(w3).heap.size, 0, none⟩) (varB (co.text.size : Int) ++ co.text).size cc) ?aV ?aX _ _ (Src.btsN Try.underlying96 (MA.out.bts (.head _)) (bytesOf_length _).symm) (by rw [bytesOf_length]; omega) ?_
    (case aV => first | rfl | (go_simp; done) | (go_simp; rfl))
    (case aX => first | rfl | (go_simp; done) | (go_simp; rfl))
    intro g2 cq2 W2 h
    have h := h.drop
    rw [← (HLB.out)] at h ⊢
    have M7 := Aside0.mk h; clear h MA hkc M6
    clear z0
    have HE := Aside0.mk (show lb = imgL1 x ++ flatTo constL x.consts (k + 1) from by rw [← HE0.out, HLB.out])
    go_wp2
    go_roundw
    (case measure => simp [intOf]; omega)
    (case rel => first | exact ⟨k + 1, _, _, lb, rfl, by go_num, by omega, HE, Aside0.mk (Mem.mid (A := [_]) M7.out)⟩ | ((repeat apply Exists.intro); exact ⟨⟨k + 1, _, _, lb, rfl, by go_num, by omega, HE, Aside0.mk (Mem.mid (A := [_]) M7.out)⟩, rfl⟩))
   ·have q2 : (co.kind == 2) = false := by simp [k2]
    have HE := Aside0.mk (show la = imgL1 x ++ flatTo constL x.consts (k + 1) from by
     rw [HS.out, ← List.append_assoc, ← HLK.out, HLA.out]
     unfold constL
     rw [if_neg k1, if_neg k2])
    clear k1 k2
    go_wp2
    go_roundw
    (case measure => simp [intOf]; omega)
    (case rel => first | exact ⟨k + 1, _, _, la, rfl, by go_num, by omega, HE, Aside0.mk (Mem.mid (A := [_]) M5.out)⟩ | ((repeat apply Exists.intro); exact ⟨⟨k + 1, _, _, la, rfl, by go_num, by omega, HE, Aside0.mk (Mem.mid (A := [_]) M5.out)⟩, rfl⟩))
 have hle : ¬ (k : Int) < (x.consts.length : Int) := by omega
 obtain rfl : k = x.consts.length := by omega
 have hlk : lk.length ≤ 2000 := by
  rw [HLK.out, List.length_append]
  have h1 := imgL1_len x
  have h2 := constTo_len HI.out x.consts.length
  omega
 have HA := Aside0.mk (show imgL2 x = lk ++ bytesOf (varB (x.funcs.length : Int)) from by rw [HLK.out]; simp [imgL2, numsL])
 clear klt hk HLK
 have z1 := M3.out.box (.tail _ (.head _))
 go_upto_region 13 with fail
 go_wp2_with fail
 refine (cVarS (x.funcs.length : Int) _ (by omega) (by omega)).mono ?_
 rintro e w2 ⟨rfl, hb⟩
 have M4 := Aside0.mk (M3.out.step hb); clear hb M3
 have hv := varB_size (x.funcs.length : Int)
 obtain ⟨cc, Wc, hkc, hM⟩ := conv_str w2 (varB (x.funcs.length : Int))
 have MA := Aside0.mk (hM _ _ M4.out); clear hM
 go_wp2_with (((with_reducible refine gate_builtin (b := .append) (xs := #[.tmp 58, .tmp 63]) rfl ?_); at_builtin; refine Aside0.out ?_))
 refine ⟨?_⟩
 refine bts_append (A := [_]) MA.out rfl (.tmp 58) (.tmp 63) 96 96 5 rfl Try.underlying96 (by kernel_rfl) (.slice (some ⟨(w2).heap.size, 0, none⟩) (varB (x.funcs.length : Int)).size cc) ?aV ?aX _ _ (Src.btsN Try.underlying96 (MA.out.bts (.head _)) (bytesOf_length _).symm) (by rw [bytesOf_length]; omega) ?_
 (case aV => first | rfl | (go_simp; done) | (go_simp; rfl))
 (case aX => first | rfl | (go_simp; done) | (go_simp; rfl))
 intro g2 cq2 W2 h
 have h := h.drop
 rw [← (HA.out)] at h ⊢
 have M5 := Aside0.mk h; clear h MA hkc M4
 clear z1 HA hlk hle hv
 go_upto_region 15 with fail
 go_loopw [4, 7] (fun u v wx => ∃ (k g c : Nat) (lk : List Int), u = .slice (some ⟨g, 0, none⟩) lk.length c ∧ v = .int .i64 k ∧ k ≤ x.funcs.length ∧ Aside0 (lk = imgL2 x ++ flatTo funcL x.funcs k) ∧ Aside0 (Mem w wx [Hold.bts g c (lk), Hold.box w.heap.size #[.slice A0 x.funcs.length c0, .slice A1 x.consts.length c1] 37])) (fun _ v _ => x.funcs.length - (intOf v).toNat)
 case atStart => exact ⟨0, _, _, imgL2 x, rfl, rfl, by omega, ⟨by rw [flatTo_zero, List.append_nil]⟩, M5⟩
 case round =>
 clear M5
 obtain ⟨k, g, c, lk, rfl, rfl, hk, HLK, M5⟩ := hrel
 by_cases klt : k < x.funcs.length
 ·skip
  have hlk : lk.length ≤ 70000 := by
   rw [HLK.out, List.length_append]
   have h1 := imgL2_len HI.out
   have h2 := funcTo_len HI.out k
   omega
  have hle : (k : Int) < (x.funcs.length : Int) := by omega
  have hk0 : (0 : Int) ≤ (k : Int) := by omega
  have HS := Aside0.mk (flatTo_succ zFunc funcL x.funcs klt)
  have OK := Aside0.mk (FOk.of (img_func HI.out (el_mem zFunc klt)))
  obtain ⟨af, A2, c2, A3, c3, A4, c4, haf, y0, y1, y2, y3, y4, ⟨l2, g2⟩, ⟨l3, g3⟩, ⟨l4, g4⟩⟩ := func_at6 G0.out k klt
  subst haf
  obtain ⟨fu, hfu⟩ : ∃ fu, fu = el zFunc x.funcs k := ⟨_, rfl⟩
  rw [← hfu] at HS OK y0 y1 y2 y3 y4 l2 g2 l3 g3 l4 g4
  clear hfu
  have y0 := pw_cell_below M5.out.below y0; have y1 := pw_cell_below M5.out.below y1; have y2 := pw_cell_below M5.out.below y2; have y3 := pw_cell_below M5.out.below y3; have y4 := pw_cell_below M5.out.below y4
  have G2 := Aside0.mk g2; have G3 := Aside0.mk g3; have G4 := Aside0.mk g4
  clear g2 g3 g4 l2 l3 l4
  obtain ⟨gf, hgf⟩ : ∃ gf : Nat, gf = wr.heap.size := ⟨_, rfl⟩
  have zx := M5.out.box (.tail _ (.head _))
  have M6 := Aside0.mk (M5.out.allocAt hgf #[.int .i64 fu.params, .int .i64 fu.regs, .slice A2 fu.caps.length c2, .slice A3 fu.code.length c3, .slice A4 fu.handlers.length c4] 73).swap2
  go_upto_region 18 with fail
  rw [← hgf]
  clear y0 y1 y2 y3 y4 M5 hgf zx
  generalize wr.alloc (.cells #[.int .i64 fu.params, .int .i64 fu.regs, .slice A2 fu.caps.length c2, .slice A3 fu.code.length c3, .slice A4 fu.handlers.length c4] 73) = wa at M6 ⊢
  have hp1 := OK.out.params; have hp2 := OK.out.regs; have hp3 := OK.out.caps
  have v1 := varB_size fu.params; have v2 := varB_size fu.regs; have v3 := varB_size (fu.caps.length : Int)
  have s1 : ¬ (9223372036854775807 < (varB fu.params).size + (varB fu.regs).size) := by omega
  have s2 : ¬ (9223372036854775807 < (varB fu.params ++ varB fu.regs).size + (varB (fu.caps.length : Int)).size) := by rw [ByteArray.size_append]; omega
  have s3 : ¬ (9223372036854775807 < (varB fu.params).size + (varB fu.regs).size + (varB (fu.caps.length : Int)).size) := by omega
  have szb : (varB fu.params ++ varB fu.regs ++ varB (fu.caps.length : Int)).size ≤ 15 := by rw [ByteArray.size_append, ByteArray.size_append]; omega
  obtain ⟨lF1, hlF1⟩ : ∃ lF1, lF1 = lk ++ bytesOf (varB fu.params ++ varB fu.regs ++ varB (fu.caps.length : Int)) := ⟨_, rfl⟩
  have HF0 := Aside0.mk hlF1; clear hlF1
  refine sz 16 (fun W => W.cell? ⟨gf, 0, none⟩ = some (.int .i64 fu.params) ∧ W.cell? ⟨gf, 1, none⟩ = some (.int .i64 fu.regs) ∧ W.cell? ⟨gf, 2, none⟩ = some (.slice A2 fu.caps.length c2)) [14] ibS.tab18 ibS.bits18 ⟨(M6.out.drew.box (.tail _ (.head _)) 0).trans rfl, (M6.out.drew.box (.tail _ (.head _)) 1).trans rfl, (M6.out.drew.box (.tail _ (.head _)) 2).trans rfl⟩ (fun HT_ HW_ hHeld => ?_)
  have MD := Aside0.mk M6.out.drew
  clear M6
  generalize hwd : World.drew _ = wd at MD hHeld ⊢
  clear hwd
  refine pz 0 77 ?_; refine pz 1 78 ?_; refine pz 4 81 ?_; refine pz 8 85 ?_; refine tz 2 79 ?_; refine tz 5 82 ?_; refine tz 9 86 ?_; refine pz 10 87 ?_
  refine ez 3 (some 80) (fun K hK => ?_)
  refine gz Try.func74 #[.int .i64 fu.params] ?_
  refine (cVarS fu.params _ (by omega) (by omega)).mono ?_; rintro e w10 ⟨rfl, hb⟩
  have MD := Aside0.mk (MD.out.step hb); clear hb
  refine ⟨_, rfl, ?_⟩
  refine hK.out _ _ ⟨(MD.out.box (.tail _ (.head _)) 0).trans rfl, (MD.out.box (.tail _ (.head _)) 1).trans rfl, (MD.out.box (.tail _ (.head _)) 2).trans rfl⟩ (fun hHeld => ?_); clear hK K; refine kz (some 80) ?_
  refine ez 6 (some 83) (fun K hK => ?_)
  refine gz Try.func74 #[.int .i64 fu.regs] ?_
  refine (cVarS fu.regs _ (by omega) (by omega)).mono ?_; rintro e w11 ⟨rfl, hb⟩
  have MD := Aside0.mk (MD.out.step hb); clear hb
  refine ⟨_, rfl, ?_⟩
  refine hK.out _ _ ⟨(MD.out.box (.tail _ (.head _)) 0).trans rfl, (MD.out.box (.tail _ (.head _)) 1).trans rfl, (MD.out.box (.tail _ (.head _)) 2).trans rfl⟩ (fun hHeld => ?_); clear hK K; refine kz (some 83) ?_
  refine pz 7 84 ?_
  refine ez 11 (some 88) (fun K hK => ?_)
  refine gz Try.func74 #[.int .i64 (fu.caps.length : Int)] ?_
  refine (cVarS (fu.caps.length : Int) _ (by omega) (by omega)).mono ?_; rintro e w12 ⟨rfl, hb⟩
  have MD := Aside0.mk (MD.out.step hb); clear hb
  refine ⟨_, rfl, ?_⟩
  refine hK.out _ _ ⟨(MD.out.box (.tail _ (.head _)) 0).trans rfl, (MD.out.box (.tail _ (.head _)) 1).trans rfl, (MD.out.box (.tail _ (.head _)) 2).trans rfl⟩ (fun hHeld => ?_); clear hK K; refine kz (some 88) ?_
  refine pz 12 89 ?_
  refine ez 13 (some 90) (fun K hK => ?_)
  obtain ⟨cc, Wc, hkc, hM⟩ := conv_str _ (varB fu.params ++ varB fu.regs ++ varB (fu.caps.length : Int))
  have MA := Aside0.mk (hM _ _ MD.out); clear hM
  have MC := MD; clear MD; have MD := Aside0.mk MA.out.drop
  refine value_ (w1 := ?_) (v := ?_) (by rfl) rfl ?_ ?_
  rotate_left 2
  ·go_simp
   constructor
   ·rfl
   ·rfl
  refine hK.out _ _ ⟨(MD.out.box (.tail _ (.head _)) 0).trans rfl, (MD.out.box (.tail _ (.head _)) 1).trans rfl, (MD.out.box (.tail _ (.head _)) 2).trans rfl⟩ (fun hHeld => ?_); clear hK K; refine kz (some 90) ?_
  refine lz 14 (some 91) (fun K hK => ?_)
  refine bts_append_step (A := [_]) MA.out (by rfl) (.tmp 77) (.tmp 90) 96 96 5 rfl Try.underlying96 (by kernel_rfl) (.slice (some ⟨_, 0, none⟩) ((varB fu.params).size + (varB fu.regs).size + (varB (fu.caps.length : Int)).size) cc) ?aV ?aX _ _ (Src.btsN Try.underlying96 (MA.out.bts (.head _)) (by rw [bytesOf_length]; simp only [ByteArray.size_append])) (by rw [bytesOf_length]; omega) ?_
  (case aV => first | rfl | (go_simp; done) | (go_simp; rfl))
  (case aX => first | rfl | (go_simp; done) | (go_simp; rfl))
  intro g2 cq2 W2 h
  have h := h.drop
  rw [← (HF0.out)] at h ⊢
  have M7 := Aside0.mk h; clear h MA MC MD
  refine hK.out _ _ ?_; clear hK K; refine kz (some 91) ?_
  refine pz 15 4 ?_
  refine dz ?_
  clear HT_ HW_
  clear v1 v2 v3 s1 s2 s3 szb hHeld
  have HF1 := Aside0.mk (show lF1 = lk ++ funcL1 fu from by rw [HF0.out, bytes_app, bytes_app]; simp [funcL1, numsL])
  clear HF0
  have hlf1 : lF1.length ≤ 70015 := by
   rw [HF1.out, List.length_append]
   have := funcL1_len fu
   omega
  go_upto_region 20 with fail
  go_loopw [4, 9] (fun u v wx => ∃ (j g c : Nat) (lj : List Int), u = .slice (some ⟨g, 0, none⟩) lj.length c ∧ v = .int .i64 j ∧ j ≤ fu.caps.length ∧ Aside0 (lj = lF1 ++ flatTo capL fu.caps j) ∧ Aside0 (Mem w wx [Hold.bts g c (lj), Hold.box gf #[.int .i64 fu.params, .int .i64 fu.regs, .slice A2 fu.caps.length c2, .slice A3 fu.code.length c3, .slice A4 fu.handlers.length c4] 73, Hold.box w.heap.size #[.slice (some af) x.funcs.length c0, .slice A1 x.consts.length c1] 37])) (fun _ v _ => fu.caps.length - (intOf v).toNat)
  case atStart => exact ⟨0, _, _, lF1, rfl, rfl, by omega, ⟨by rw [flatTo_zero, List.append_nil]⟩, M7⟩
  case round =>
  clear M7
  obtain ⟨j, g, c, lj, rfl, rfl, hj, HLJ, M7⟩ := hrel
  by_cases jlt : j < fu.caps.length
  ·skip
   have hlj : lj.length ≤ 70140 := by
    rw [HLJ.out, List.length_append]
    have h2 := flatTo_len capL fu.caps 6 (fun y _ => capL_len y) j
    omega
   have jle : (j : Int) < (fu.caps.length : Int) := by omega
   have hj0 : (0 : Int) ≤ (j : Int) := by omega
   have HSJ := Aside0.mk (flatTo_succ zCap capL fu.caps jlt)
   have hix := OK.out.cap _ (el_mem zCap jlt)
   obtain ⟨ap, hap, _, y0, y1⟩ := Cap_at G2.out j jlt
   subst hap
   obtain ⟨ca, hca⟩ : ∃ ca, ca = el zCap fu.caps j := ⟨_, rfl⟩
   rw [← hca] at HSJ hix y0 y1
   clear hca
   have Y0 := Aside0.mk y0; have Y1 := Aside0.mk y1; clear y0 y1
   have zf := M7.out.box (.tail _ (.head _))
   go_upto_region 22 with fail
   clear zf
   have v1 := varB_size ca.index
   have fs : (flagB ca.reg).size ≤ 1 := by cases ca.reg <;> exact Nat.le_refl 1
   have s1 : ¬ (9223372036854775807 < (flagB ca.reg).size + (varB ca.index).size) := by omega
   have szb : (flagB ca.reg ++ varB ca.index).size ≤ 6 := by rw [ByteArray.size_append]; omega
   obtain ⟨l3, hl3⟩ : ∃ l3, l3 = lj ++ bytesOf (flagB ca.reg ++ varB ca.index) := ⟨_, rfl⟩
   have HL3 := Aside0.mk hl3; clear hl3
   refine sz 19 (fun W => W.cell? ⟨gf, 2, none⟩ = some (.slice (some ap) fu.caps.length c2) ∧ W.cell? (ap.add (j * 2)) = some (.bool ca.reg) ∧ W.cell? ⟨(ap.add (j * 2)).block, (ap.add (j * 2)).off + 1, none⟩ = some (.int .i64 ca.index)) [17] ibS.tab22 ibS.bits22 ⟨(M7.out.drew.box (.tail _ (.head _)) 2).trans rfl, pw_cell_below M7.out.drew.below Y0.out, pw_cell_below M7.out.drew.below Y1.out⟩ (fun HT_ HW_ hHeld => ?_)
   have MD := Aside0.mk M7.out.drew
   clear M7
   generalize hwd : World.drew _ = wd at MD hHeld ⊢
   clear hwd
   refine pz 0 99 ?_; refine pz 1 100 ?_; refine pz 3 102 ?_; refine pz 8 107 ?_; refine pz 10 109 ?_; refine tz 2 101 ?_; refine pz 4 103 ?_; refine pz 5 104 ?_; refine tz 6 105 ?_; refine tz 9 108 ?_; refine pz 11 110 ?_; refine pz 12 111 ?_; refine tz 13 112 ?_
   refine ez 7 (some 106) (fun K hK => ?_)
   refine gz Try.func77 #[.bool ca.reg] ?_
   refine (cFlag ca.reg _).mono ?_; rintro e w10 ⟨rfl, hb⟩
   have MD := Aside0.mk (MD.out.step hb); clear hb
   refine ⟨_, rfl, ?_⟩
   refine hK.out _ _ ⟨(MD.out.box (.tail _ (.head _)) 2).trans rfl, pw_cell_below MD.out.below Y0.out, pw_cell_below MD.out.below Y1.out⟩ (fun hHeld => ?_); clear hK K; refine kz (some 106) ?_
   refine ez 14 (some 113) (fun K hK => ?_)
   refine gz Try.func74 #[.int .i64 ca.index] ?_
   refine (cVarS ca.index _ (by omega) (by omega)).mono ?_; rintro e w11 ⟨rfl, hb⟩
   have MD := Aside0.mk (MD.out.step hb); clear hb
   refine ⟨_, rfl, ?_⟩
   refine hK.out _ _ ⟨(MD.out.box (.tail _ (.head _)) 2).trans rfl, pw_cell_below MD.out.below Y0.out, pw_cell_below MD.out.below Y1.out⟩ (fun hHeld => ?_); clear hK K; refine kz (some 113) ?_
   refine pz 15 114 ?_
   refine ez 16 (some 115) (fun K hK => ?_)
   obtain ⟨cc, Wc, hkc, hM⟩ := conv_str _ (flagB ca.reg ++ varB ca.index)
   have MA := Aside0.mk (hM _ _ MD.out); clear hM
   have MC := MD; clear MD; have MD := Aside0.mk MA.out.drop
   refine value_ (w1 := ?_) (v := ?_) (by rfl) rfl ?_ ?_
   rotate_left 2
   ·go_simp
    constructor
    ·rfl
    ·rfl
   refine hK.out _ _ ⟨(MD.out.box (.tail _ (.head _)) 2).trans rfl, pw_cell_below MD.out.below Y0.out, pw_cell_below MD.out.below Y1.out⟩ (fun hHeld => ?_); clear hK K; refine kz (some 115) ?_
   refine lz 17 (some 116) (fun K hK => ?_)
   refine bts_append_step (A := [_]) MA.out (by rfl) (.tmp 99) (.tmp 115) 96 96 5 rfl Try.underlying96 (by kernel_rfl) (.slice (some ⟨_, 0, none⟩) ((flagB ca.reg).size + (varB ca.index).size) cc) ?aV ?aX _ _ (Src.btsN Try.underlying96 (MA.out.bts (.head _)) (by rw [bytesOf_length]; simp only [ByteArray.size_append])) (by rw [bytesOf_length]; omega) ?_
   (case aV => first | rfl | (go_simp; done) | (go_simp; rfl))
   (case aX => first | rfl | (go_simp; done) | (go_simp; rfl))
   intro g2 cq2 W2 h
   have h := h.drop
   rw [← (HL3.out)] at h ⊢
   have M8 := Aside0.mk h; clear h MA MC MD
   refine hK.out _ _ ?_; clear hK K; refine kz (some 116) ?_
   refine pz 18 4 ?_
   refine dz ?_
   clear HT_ HW_
   clear v1 fs s1 szb hHeld
   have HE := Aside0.mk (show l3 = lF1 ++ flatTo capL fu.caps (j + 1) from by
    rw [HSJ.out, ← List.append_assoc, ← HLJ.out, HL3.out, bytes_app, bytes_flag]
    simp [capL, numsL])
   go_wp2
   go_roundw
   (case measure => simp [intOf]; omega)
   (case rel => first | exact ⟨j + 1, _, _, l3, rfl, by go_num, by omega, HE, M8⟩ | ((repeat apply Exists.intro); exact ⟨⟨j + 1, _, _, l3, rfl, by go_num, by omega, HE, M8⟩, rfl⟩))
  have jle : ¬ (j : Int) < (fu.caps.length : Int) := by omega
  obtain rfl : j = fu.caps.length := by omega
  clear jlt hj
  obtain ⟨lF2, hlF2⟩ : ∃ lF2, lF2 = lj ++ bytesOf (varB (fu.code.length : Int)) := ⟨_, rfl⟩
  have HA := Aside0.mk hlF2; clear hlF2
  have HF2 := Aside0.mk (show lF2 = lk ++ funcL2 fu from by rw [HA.out, HLJ.out, HF1.out]; simp [funcL2, numsL])
  have hlj : lj.length ≤ 70140 := by
   rw [HLJ.out, List.length_append]
   have h2 := flatTo_len capL fu.caps 6 (fun y _ => capL_len y) fu.caps.length
   omega
  clear HLJ
  have hp4 := OK.out.code
  have v1 := varB_size (fu.code.length : Int)
  have zf := M7.out.box (.tail _ (.head _))
  go_upto_region 23 with fail
  go_wp2_with fail
  refine (cVarS (fu.code.length : Int) _ (by omega) (by omega)).mono ?_
  rintro e w4 ⟨rfl, hb⟩
  have M8 := Aside0.mk (M7.out.step hb); clear hb M7
  obtain ⟨cc, Wc, hkc, hM⟩ := conv_str w4 (varB (fu.code.length : Int))
  have MA := Aside0.mk (hM _ _ M8.out); clear hM
  go_wp2_with (((with_reducible refine gate_builtin (b := .append) (xs := #[.tmp 117, .tmp 122]) rfl ?_); at_builtin; refine Aside0.out ?_))
  refine ⟨?_⟩
  refine bts_append (A := [_]) MA.out rfl (.tmp 117) (.tmp 122) 96 96 5 rfl Try.underlying96 (by kernel_rfl) (.slice (some ⟨(w4).heap.size, 0, none⟩) (varB (fu.code.length : Int)).size cc) ?aV ?aX _ _ (Src.btsN Try.underlying96 (MA.out.bts (.head _)) (bytesOf_length _).symm) (by rw [bytesOf_length]; omega) ?_
  (case aV => first | rfl | (go_simp; done) | (go_simp; rfl))
  (case aX => first | rfl | (go_simp; done) | (go_simp; rfl))
  intro g2 cq2 W2 h
  have h := h.drop
  rw [← (HA.out)] at h ⊢
  have M9 := Aside0.mk h; clear h MA hkc M8
  clear zf HA hlj jle v1
  have hlf2 : lF2.length ≤ 70200 := by
   rw [HF2.out, List.length_append]
   have := funcL2_len OK.out
   omega
  go_upto_region 25 with fail
  go_loopw [4, 10] (fun u v wx => ∃ (j g c : Nat) (lj : List Int), u = .slice (some ⟨g, 0, none⟩) lj.length c ∧ v = .int .i64 j ∧ j ≤ fu.code.length ∧ Aside0 (lj = lF2 ++ flatTo insL fu.code j) ∧ Aside0 (Mem w wx [Hold.bts g c (lj), Hold.box gf #[.int .i64 fu.params, .int .i64 fu.regs, .slice A2 fu.caps.length c2, .slice A3 fu.code.length c3, .slice A4 fu.handlers.length c4] 73, Hold.box w.heap.size #[.slice (some af) x.funcs.length c0, .slice A1 x.consts.length c1] 37])) (fun _ v _ => fu.code.length - (intOf v).toNat)
  case atStart => exact ⟨0, _, _, lF2, rfl, rfl, by omega, ⟨by rw [flatTo_zero, List.append_nil]⟩, M9⟩
  case round =>
  clear M9
  obtain ⟨j, g, c, lj, rfl, rfl, hj, HLJ, M9⟩ := hrel
  by_cases jlt : j < fu.code.length
  ·skip
   have hlj : lj.length ≤ 73600 := by
    rw [HLJ.out, List.length_append]
    have h2 := flatTo_len insL fu.code 11 (fun y _ => insL_len y) j
    omega
   have jle : (j : Int) < (fu.code.length : Int) := by omega
   have hj0 : (0 : Int) ≤ (j : Int) := by omega
   have HSJ := Aside0.mk (flatTo_succ zIns insL fu.code jlt)
   have hix := OK.out.ins _ (el_mem zIns jlt)
   obtain ⟨ap, hap, _, y0, y1, y2⟩ := Ins_at G3.out j jlt
   subst hap
   obtain ⟨ca, hca⟩ : ∃ ca, ca = el zIns fu.code j := ⟨_, rfl⟩
   rw [← hca] at HSJ hix y0 y1 y2
   clear hca
   have Y1 := Aside0.mk y1; have Y2 := Aside0.mk y2; clear y1 y2
   have y0 := pw_cell_below M9.out.below y0
   have zf := M9.out.box (.tail _ (.head _))
   go_upto_region 27 with fail
   obtain ⟨la, hla⟩ : ∃ la, la = lj ++ [ca.op % 256] := ⟨_, rfl⟩
   have HLA := Aside0.mk hla; clear hla
   go_wp2_with (((with_reducible refine gate_builtin (b := .append) (xs := #[.tmp 131, .tmp 139]) rfl ?_); at_builtin; refine Aside0.out ?_))
   refine ⟨?_⟩
   have MA := Aside0.mk (M9.out.allocAt (g := (wr).heap.size) rfl #[.int .u8 (ca.op % 256)] 5)
   refine bts_append (A := [_]) MA.out rfl (.tmp 131) (.tmp 139) 96 96 5 rfl Try.underlying96 (by kernel_rfl) (.slice (some ⟨(wr).heap.size, 0, none⟩) 1 1) ?aV ?aX 1 [ca.op % 256] (Src.byte Try.underlying96 (MA.out.blk (.head _))) (by simp; omega) ?_
   (case aV => first | rfl | (go_simp; done) | (go_simp; rfl))
   (case aX => first | rfl | (go_simp; done) | (go_simp; rfl))
   intro g2 cq2 W2 h
   have h := h.drop
   rw [← (HLA.out)] at h ⊢
   have M10 := Aside0.mk h; clear h MA M9
   clear y0 zf
   have hla : la.length ≤ 73601 := by rw [HLA.out, List.length_append]; simp; omega
   go_upto_region 28 with fail
   have v1 := varB_size ca.a; have v2 := varB_size ca.b
   have s1 : ¬ (9223372036854775807 < (varB ca.a).size + (varB ca.b).size) := by omega
   have szb : (varB ca.a ++ varB ca.b).size ≤ 10 := by rw [ByteArray.size_append]; omega
   obtain ⟨l3, hl3⟩ : ∃ l3, l3 = la ++ bytesOf (varB ca.a ++ varB ca.b) := ⟨_, rfl⟩
   have HL3 := Aside0.mk hl3; clear hl3
   refine sz 19 (fun W => W.cell? ⟨gf, 3, none⟩ = some (.slice (some ap) fu.code.length c3) ∧ W.cell? ⟨(ap.add (j * 3)).block, (ap.add (j * 3)).off + 1, none⟩ = some (.int .i64 ca.a) ∧ W.cell? ⟨(ap.add (j * 3)).block, (ap.add (j * 3)).off + 2, none⟩ = some (.int .i64 ca.b)) [17] ibS.tab28 ibS.bits28 ⟨(M10.out.drew.box (.tail _ (.head _)) 3).trans rfl, pw_cell_below M10.out.drew.below Y1.out, pw_cell_below M10.out.drew.below Y2.out⟩ (fun HT_ HW_ hHeld => ?_)
   have MD := Aside0.mk M10.out.drew
   clear M10
   generalize hwd : World.drew _ = wd at MD hHeld ⊢
   clear hwd
   refine pz 0 141 ?_; refine pz 1 142 ?_; refine pz 3 144 ?_; refine pz 8 149 ?_; refine pz 10 151 ?_; refine tz 2 143 ?_; refine pz 4 145 ?_; refine pz 5 146 ?_; refine tz 6 147 ?_; refine tz 9 150 ?_; refine pz 11 152 ?_; refine pz 12 153 ?_; refine tz 13 154 ?_
   refine ez 7 (some 148) (fun K hK => ?_)
   refine gz Try.func74 #[.int .i64 ca.a] ?_
   refine (cVarS ca.a _ (by omega) (by omega)).mono ?_; rintro e w10 ⟨rfl, hb⟩
   have MD := Aside0.mk (MD.out.step hb); clear hb
   refine ⟨_, rfl, ?_⟩
   refine hK.out _ _ ⟨(MD.out.box (.tail _ (.head _)) 3).trans rfl, pw_cell_below MD.out.below Y1.out, pw_cell_below MD.out.below Y2.out⟩ (fun hHeld => ?_); clear hK K; refine kz (some 148) ?_
   refine ez 14 (some 155) (fun K hK => ?_)
   refine gz Try.func74 #[.int .i64 ca.b] ?_
   refine (cVarS ca.b _ (by omega) (by omega)).mono ?_; rintro e w11 ⟨rfl, hb⟩
   have MD := Aside0.mk (MD.out.step hb); clear hb
   refine ⟨_, rfl, ?_⟩
   refine hK.out _ _ ⟨(MD.out.box (.tail _ (.head _)) 3).trans rfl, pw_cell_below MD.out.below Y1.out, pw_cell_below MD.out.below Y2.out⟩ (fun hHeld => ?_); clear hK K; refine kz (some 155) ?_
   refine pz 15 156 ?_
   refine ez 16 (some 157) (fun K hK => ?_)
   obtain ⟨cc, Wc, hkc, hM⟩ := conv_str _ (varB ca.a ++ varB ca.b)
   have MA := Aside0.mk (hM _ _ MD.out); clear hM
   have MC := MD; clear MD; have MD := Aside0.mk MA.out.drop
   refine value_ (w1 := ?_) (v := ?_) (by rfl) rfl ?_ ?_
   rotate_left 2
   ·go_simp
    constructor
    ·rfl
    ·rfl
   refine hK.out _ _ ⟨(MD.out.box (.tail _ (.head _)) 3).trans rfl, pw_cell_below MD.out.below Y1.out, pw_cell_below MD.out.below Y2.out⟩ (fun hHeld => ?_); clear hK K; refine kz (some 157) ?_
   refine lz 17 (some 158) (fun K hK => ?_)
   refine bts_append_step (A := [_]) MA.out (by rfl) (.tmp 141) (.tmp 157) 96 96 5 rfl Try.underlying96 (by kernel_rfl) (.slice (some ⟨_, 0, none⟩) ((varB ca.a).size + (varB ca.b).size) cc) ?aV ?aX _ _ (Src.btsN Try.underlying96 (MA.out.bts (.head _)) (by rw [bytesOf_length]; simp only [ByteArray.size_append])) (by rw [bytesOf_length]; omega) ?_
   (case aV => first | rfl | (go_simp; done) | (go_simp; rfl))
   (case aX => first | rfl | (go_simp; done) | (go_simp; rfl))
   intro g2 cq2 W2 h
   have h := h.drop
   rw [← (HL3.out)] at h ⊢
   have M11 := Aside0.mk h; clear h MA MC MD
   refine hK.out _ _ ?_; clear hK K; refine kz (some 158) ?_
   refine pz 18 4 ?_
   refine dz ?_
   clear HT_ HW_
   clear v1 v2 s1 szb hHeld
   have HE := Aside0.mk (show l3 = lF2 ++ flatTo insL fu.code (j + 1) from by
    rw [HSJ.out, ← List.append_assoc, ← HLJ.out, HL3.out, HLA.out, bytes_app]
    simp [insL, numsL])
   go_wp2
   go_roundw
   (case measure => simp [intOf]; omega)
   (case rel => first | exact ⟨j + 1, _, _, l3, rfl, by go_num, by omega, HE, M11⟩ | ((repeat apply Exists.intro); exact ⟨⟨j + 1, _, _, l3, rfl, by go_num, by omega, HE, M11⟩, rfl⟩))
  have jle : ¬ (j : Int) < (fu.code.length : Int) := by omega
  obtain rfl : j = fu.code.length := by omega
  clear jlt hj
  obtain ⟨lF3, hlF3⟩ : ∃ lF3, lF3 = lj ++ bytesOf (varB (fu.handlers.length : Int)) := ⟨_, rfl⟩
  have HA := Aside0.mk hlF3; clear hlF3
  have HF3 := Aside0.mk (show lF3 = lk ++ funcL3 fu from by rw [HA.out, HLJ.out, HF2.out]; simp [funcL3, numsL])
  have hlj : lj.length ≤ 73600 := by
   rw [HLJ.out, List.length_append]
   have h2 := flatTo_len insL fu.code 11 (fun y _ => insL_len y) fu.code.length
   omega
  clear HLJ
  have hp5 := OK.out.hands
  have v1 := varB_size (fu.handlers.length : Int)
  have zf := M9.out.box (.tail _ (.head _))
  go_upto_region 29 with fail
  go_wp2_with fail
  refine (cVarS (fu.handlers.length : Int) _ (by omega) (by omega)).mono ?_
  rintro e w5 ⟨rfl, hb⟩
  have M10 := Aside0.mk (M9.out.step hb); clear hb M9
  obtain ⟨cc, Wc, hkc, hM⟩ := conv_str w5 (varB (fu.handlers.length : Int))
  have MA := Aside0.mk (hM _ _ M10.out); clear hM
  go_wp2_with (((with_reducible refine gate_builtin (b := .append) (xs := #[.tmp 159, .tmp 164]) rfl ?_); at_builtin; refine Aside0.out ?_))
  refine ⟨?_⟩
  refine bts_append (A := [_]) MA.out rfl (.tmp 159) (.tmp 164) 96 96 5 rfl Try.underlying96 (by kernel_rfl) (.slice (some ⟨(w5).heap.size, 0, none⟩) (varB (fu.handlers.length : Int)).size cc) ?aV ?aX _ _ (Src.btsN Try.underlying96 (MA.out.bts (.head _)) (bytesOf_length _).symm) (by rw [bytesOf_length]; omega) ?_
  (case aV => first | rfl | (go_simp; done) | (go_simp; rfl))
  (case aX => first | rfl | (go_simp; done) | (go_simp; rfl))
  intro g2 cq2 W2 h
  have h := h.drop
  rw [← (HA.out)] at h ⊢
  have M11 := Aside0.mk h; clear h MA hkc M10
  clear zf HA hlj jle v1
  have hlf3 : lF3.length ≤ 73500 := by
   rw [HF3.out, List.length_append]
   have := funcL3_len OK.out
   omega
  go_upto_region 31 with fail
  go_loopw [4, 11] (fun u v wx => ∃ (j g c : Nat) (lj : List Int), u = .slice (some ⟨g, 0, none⟩) lj.length c ∧ v = .int .i64 j ∧ j ≤ fu.handlers.length ∧ Aside0 (lj = lF3 ++ flatTo handL fu.handlers j) ∧ Aside0 (Mem w wx [Hold.bts g c (lj), Hold.box gf #[.int .i64 fu.params, .int .i64 fu.regs, .slice A2 fu.caps.length c2, .slice A3 fu.code.length c3, .slice A4 fu.handlers.length c4] 73, Hold.box w.heap.size #[.slice (some af) x.funcs.length c0, .slice A1 x.consts.length c1] 37])) (fun _ v _ => fu.handlers.length - (intOf v).toNat)
  case atStart => exact ⟨0, _, _, lF3, rfl, rfl, by omega, ⟨by rw [flatTo_zero, List.append_nil]⟩, M11⟩
  case round =>
  clear M11
  obtain ⟨j, g, c, lj, rfl, rfl, hj, HLJ, M11⟩ := hrel
  by_cases jlt : j < fu.handlers.length
  ·skip
   have hlj : lj.length ≤ 74200 := by
    rw [HLJ.out, List.length_append]
    have h2 := flatTo_len handL fu.handlers 15 (fun y _ => handL_len y) j
    omega
   have jle : (j : Int) < (fu.handlers.length : Int) := by omega
   have hj0 : (0 : Int) ≤ (j : Int) := by omega
   have HSJ := Aside0.mk (flatTo_succ zHandler handL fu.handlers jlt)
   have hix := OK.out.hand _ (el_mem zHandler jlt)
   obtain ⟨ap, hap, _, y0, y1, y2⟩ := Handler_at (Kd.C_below G4.out M11.out.below) j jlt
   subst hap
   obtain ⟨ca, hca⟩ : ∃ ca, ca = el zHandler fu.handlers j := ⟨_, rfl⟩
   rw [← hca] at HSJ hix y0 y1 y2
   clear hca
   have zf := M11.out.box (.tail _ (.head _))
   obtain ⟨gc, hgc⟩ : ∃ gc : Nat, gc = wr.heap.size := ⟨_, rfl⟩
   have M12 := Aside0.mk (M11.out.allocAt hgc #[.int .i64 ca.from_, .int .i64 ca.to_, .int .i64 ca.target] 107).swap2
   go_upto_region 34 with fail
   rw [← hgc]
   clear y0 y1 y2 M11 hgc zf
   generalize wr.alloc (.cells #[.int .i64 ca.from_, .int .i64 ca.to_, .int .i64 ca.target] 107) = wb at M12 ⊢
   have v1 := varB_size ca.from_; have v2 := varB_size ca.to_; have v3 := varB_size ca.target
   have s1 : ¬ (9223372036854775807 < (varB ca.from_).size + (varB ca.to_).size) := by omega
   have s2 : ¬ (9223372036854775807 < (varB ca.from_ ++ varB ca.to_).size + (varB ca.target).size) := by rw [ByteArray.size_append]; omega
   have s3 : ¬ (9223372036854775807 < (varB ca.from_).size + (varB ca.to_).size + (varB ca.target).size) := by omega
   have szb : (varB ca.from_ ++ varB ca.to_ ++ varB ca.target).size ≤ 15 := by rw [ByteArray.size_append, ByteArray.size_append]; omega
   obtain ⟨l3, hl3⟩ : ∃ l3, l3 = lj ++ bytesOf (varB ca.from_ ++ varB ca.to_ ++ varB ca.target) := ⟨_, rfl⟩
   have HL3 := Aside0.mk hl3; clear hl3
   refine sz 15 (fun W => W.cell? ⟨gc, 0, none⟩ = some (.int .i64 ca.from_) ∧ W.cell? ⟨gc, 1, none⟩ = some (.int .i64 ca.to_) ∧ W.cell? ⟨gc, 2, none⟩ = some (.int .i64 ca.target)) [13] ibS.tab34 ibS.bits34 ⟨(M12.out.drew.box (.tail _ (.head _)) 0).trans rfl, (M12.out.drew.box (.tail _ (.head _)) 1).trans rfl, (M12.out.drew.box (.tail _ (.head _)) 2).trans rfl⟩ (fun HT_ HW_ hHeld => ?_)
   have MD := Aside0.mk M12.out.drew
   clear M12
   generalize hwd : World.drew _ = wd at MD hHeld ⊢
   clear hwd
   refine pz 0 178 ?_; refine pz 1 179 ?_; refine pz 4 182 ?_; refine pz 8 186 ?_; refine tz 2 180 ?_; refine tz 5 183 ?_; refine tz 9 187 ?_
   refine ez 3 (some 181) (fun K hK => ?_)
   refine gz Try.func74 #[.int .i64 ca.from_] ?_
   refine (cVarS ca.from_ _ (by omega) (by omega)).mono ?_; rintro e w10 ⟨rfl, hb⟩
   have MD := Aside0.mk (MD.out.step hb); clear hb
   refine ⟨_, rfl, ?_⟩
   refine hK.out _ _ ⟨(MD.out.box (.tail _ (.head _)) 0).trans rfl, (MD.out.box (.tail _ (.head _)) 1).trans rfl, (MD.out.box (.tail _ (.head _)) 2).trans rfl⟩ (fun hHeld => ?_); clear hK K; refine kz (some 181) ?_
   refine ez 6 (some 184) (fun K hK => ?_)
   refine gz Try.func74 #[.int .i64 ca.to_] ?_
   refine (cVarS ca.to_ _ (by omega) (by omega)).mono ?_; rintro e w11 ⟨rfl, hb⟩
   have MD := Aside0.mk (MD.out.step hb); clear hb
   refine ⟨_, rfl, ?_⟩
   refine hK.out _ _ ⟨(MD.out.box (.tail _ (.head _)) 0).trans rfl, (MD.out.box (.tail _ (.head _)) 1).trans rfl, (MD.out.box (.tail _ (.head _)) 2).trans rfl⟩ (fun hHeld => ?_); clear hK K; refine kz (some 184) ?_
   refine pz 7 185 ?_
   refine ez 10 (some 188) (fun K hK => ?_)
   refine gz Try.func74 #[.int .i64 ca.target] ?_
   refine (cVarS ca.target _ (by omega) (by omega)).mono ?_; rintro e w12 ⟨rfl, hb⟩
   have MD := Aside0.mk (MD.out.step hb); clear hb
   refine ⟨_, rfl, ?_⟩
   refine hK.out _ _ ⟨(MD.out.box (.tail _ (.head _)) 0).trans rfl, (MD.out.box (.tail _ (.head _)) 1).trans rfl, (MD.out.box (.tail _ (.head _)) 2).trans rfl⟩ (fun hHeld => ?_); clear hK K; refine kz (some 188) ?_
   refine pz 11 189 ?_
   refine ez 12 (some 190) (fun K hK => ?_)
   obtain ⟨cc, Wc, hkc, hM⟩ := conv_str _ (varB ca.from_ ++ varB ca.to_ ++ varB ca.target)
   have MA := Aside0.mk (hM _ _ MD.out); clear hM
   have MC := MD; clear MD; have MD := Aside0.mk MA.out.drop
   refine value_ (w1 := ?_) (v := ?_) (by rfl) rfl ?_ ?_
   rotate_left 2
   ·go_simp
    constructor
    ·rfl
    ·rfl
   refine hK.out _ _ ⟨(MD.out.box (.tail _ (.head _)) 0).trans rfl, (MD.out.box (.tail _ (.head _)) 1).trans rfl, (MD.out.box (.tail _ (.head _)) 2).trans rfl⟩ (fun hHeld => ?_); clear hK K; refine kz (some 190) ?_
   refine lz 13 (some 191) (fun K hK => ?_)
   refine bts_append_step (A := [_]) MA.out (by rfl) (.tmp 178) (.tmp 190) 96 96 5 rfl Try.underlying96 (by kernel_rfl) (.slice (some ⟨_, 0, none⟩) ((varB ca.from_).size + (varB ca.to_).size + (varB ca.target).size) cc) ?aV ?aX _ _ (Src.btsN Try.underlying96 (MA.out.bts (.head _)) (by rw [bytesOf_length]; simp only [ByteArray.size_append])) (by rw [bytesOf_length]; omega) ?_
   (case aV => first | rfl | (go_simp; done) | (go_simp; rfl))
   (case aX => first | rfl | (go_simp; done) | (go_simp; rfl))
   intro g2 cq2 W2 h
   have h := h.drop
   rw [← (HL3.out)] at h ⊢
   have M13 := Aside0.mk h; clear h MA MC MD
   refine hK.out _ _ ?_; clear hK K; refine kz (some 191) ?_
   refine pz 14 4 ?_
   refine dz ?_
   clear HT_ HW_
   clear v1 v2 v3 s1 s2 s3 szb hHeld
   have HE := Aside0.mk (show l3 = lF3 ++ flatTo handL fu.handlers (j + 1) from by
    rw [HSJ.out, ← List.append_assoc, ← HLJ.out, HL3.out, bytes_app, bytes_app]
    simp [handL, numsL])
   go_wp2
   go_roundw
   (case measure => simp [intOf]; omega)
   (case rel => first | exact ⟨j + 1, _, _, l3, rfl, by go_num, by omega, HE, Aside0.mk (Mem.mid (A := [_]) M13.out)⟩ | ((repeat apply Exists.intro); exact ⟨⟨j + 1, _, _, l3, rfl, by go_num, by omega, HE, Aside0.mk (Mem.mid (A := [_]) M13.out)⟩, rfl⟩))
  have jle : ¬ (j : Int) < (fu.handlers.length : Int) := by omega
  obtain rfl : j = fu.handlers.length := by omega
  have zf := M11.out.box (.tail _ (.head _))
  have HE := Aside0.mk (show lj = imgL2 x ++ flatTo funcL x.funcs (k + 1) from by
   rw [HLJ.out, HF3.out, HS.out, HLK.out]
   simp [funcL])
  go_wp2
  go_roundw
  (case measure => simp [intOf]; omega)
  (case rel => first | exact ⟨k + 1, _, _, lj, rfl, by go_num, by omega, HE, Aside0.mk (Mem.mid (A := [_]) M11.out)⟩ | ((repeat apply Exists.intro); exact ⟨⟨k + 1, _, _, lj, rfl, by go_num, by omega, HE, Aside0.mk (Mem.mid (A := [_]) M11.out)⟩, rfl⟩))
 have hle : ¬ (k : Int) < (x.funcs.length : Int) := by omega
 obtain rfl : k = x.funcs.length := by omega
 have hlk : lk.length ≤ 70000 := by
  rw [HLK.out, List.length_append]
  have h1 := imgL2_len HI.out
  have h2 := funcTo_len HI.out x.funcs.length
  omega
 have HX := Aside0.mk (show lk = imgL x from HLK.out)
 have hR := HR.out
 have hS := HSE.out
 rw [← HX.out] at hR hS
 have HSE := Aside0.mk hS; clear hS
 have zx := M5.out.box (.tail _ (.head _))
 by_cases hbig : ((lk.length : Int) + 4 > 12000)
 ·rw [if_pos hbig] at hR
  have HR := Aside0.mk hR; clear hR
  go_wp2
  go_ret2
  exact ⟨by rw [HR.out]; rfl, M5.out.below⟩
 rw [if_neg hbig] at hR
 have HR := Aside0.mk hR; clear hR
 have ks := Kd.C_string (P := Try.prog) (src := 96) (dst := 9) (e := 5) (c := c) Try.underlying96 Try.underlying5 Try.underlying9 ((M5.out.bts (.head _)).reads (by omega))
 go_upto_region 37 with fail
 go_wp2_with fail
 refine (HSE.out _).mono ?_
 rintro e w6 ⟨rfl, hb⟩
 have M6 := Aside0.mk (M5.out.step hb); clear hb ks
 go_wp2
 go_ret2
 exact ⟨by rw [HR.out]; rfl, M6.out.below⟩
end Go.Proofs.Ytcbaokflimdjnaa.Law
end
section
namespace Go.Proofs.Ytcbaokflimdjnaa.Law
open Go.RowKit Go.Proofs.YtcbaokflimdjnaaW.PrintWords Go.Proofs.YtcbaokflimdjnaaW.PrintLast Go.Proofs.YtcbaokflimdjnaaW.PrintMore Go.Proofs.Ytcbaokflimdjnaa.Num Go.Proofs.Ytcbaokflimdjnaa
set_option maxHeartbeats 4000000 in
set_option maxRecDepth 100000 in
theorem cImgI (x : Image) (t : ByteArray) (b : Bool) (A0 : Option Addr) (c0 : Nat) (A1 : Option Addr) (c1 : Nat) (w : World) (hs : ∀ w : World, Calls Try.prog 80 #[.string (strOfNums (imgL x))] w fun e w' => e = .returned (.tuple #[.string t, .bool b]) ∧ Below w.heap.size w w') (l0 : x.funcs.length ≤ c0) (g0 : kFuncI.C w A0 x.funcs.length x.funcs) (l1 : x.consts.length ≤ c1) (g1 : kConst.C w A1 x.consts.length x.consts) (hn : ∀ y ∈ x.consts, 0 ≤ y.num ∧ y.num < 18446744073709551616) :
  Calls Try.prog 46 #[.agg #[.slice A0 x.funcs.length c0, .slice A1 x.consts.length c1]] w fun e w' => e = .returned (.tuple #[.string (imgR x t b).1, .bool (imgR x t b).2]) ∧ Below w.heap.size w w' := by
 have hu := Try.underlying37
 have G0 := Aside0.mk g0; have G1 := Aside0.mk g1; have HN := Aside0.mk hn; have L0 := Aside0.mk l0; have L1 := Aside0.mk l1; have HSE := Aside0.mk hs
 clear g0 g1 hn l0 l1 hs
 have M0 := Aside0.mk ((Mem.start w).allocAt rfl #[.slice A0 x.funcs.length c0, .slice A1 x.consts.length c1] 37)
 have z := M0.out.box (.head _)
 go_enter Try.func46, Try.ntmps46
 go_wp2_with fail
 refine (cImageOkI x A0 c0 A1 c1 _ L0.out (Kd.C_below G0.out M0.out.below) L1.out (Kd.C_below G1.out M0.out.below) HN.out).mono ?_
 rintro e w1 ⟨rfl, hb⟩
 have M1 := Aside0.mk (M0.out.step hb); clear hb M0 z
 rcases Bool.eq_false_or_eq_true (imgB x) with hi | hi
 rotate_left
 ·rw [hi]
  have HR := Aside0.mk (show imgR x t b = (⟨#[]⟩, false) from if_neg (by rw [hi]; decide))
  clear hi
  go_wp2
  go_ret2
  exact ⟨by rw [HR.out]; rfl, M1.out.below⟩
 rw [hi]
 have HI := Aside0.mk hi
 have HR := Aside0.mk (show imgR x t b = if ((imgL x).length : Int) + 4 > 12000 then (⟨#[]⟩, false) else (t, b) from if_pos hi)
 clear hi
 have z1 := M1.out.box (.head _)
 go_upto_region 3 with fail
 go_wp2_with fail
 refine (cBytesI x A0 c0 A1 c1 _ HI.out L0.out (Kd.C_below G0.out M1.out.below) L1.out (Kd.C_below G1.out M1.out.below) HN.out).mono ?_
 rintro e w2 ⟨rfl, hb⟩
 have M2 := Aside0.mk (M1.out.step hb); clear hb M1 z1
 have hsz := strOfNums_size (imgL x)
 have hS := HSE.out; have hR := HR.out
 have hbd : (imgL x).length ≤ 70000 := by
  unfold imgL
  rw [List.length_append]
  have h1 := imgL2_len HI.out
  have h2 := funcTo_len HI.out x.funcs.length
  have h3 := (img_len HI.out).2.1
  omega
 rw [← hsz] at hR hbd
 generalize strOfNums (imgL x) = s at hS hR hbd ⊢
 have HSE := Aside0.mk hS; clear hS hsz
 by_cases hbig : ((s.size : Int) + 4 > 12000)
 ·rw [if_pos hbig] at hR
  have HR := Aside0.mk hR; clear hR
  go_wp2
  go_ret2
  exact ⟨by rw [HR.out]; rfl, M2.out.below⟩
 rw [if_neg hbig] at hR
 have HR := Aside0.mk hR; clear hR
 go_upto_region 6 with fail
 go_wp2_with fail
 refine (HSE.out _).mono ?_
 rintro e w6 ⟨rfl, hb⟩
 have M6 := Aside0.mk (M2.out.step hb); clear hb
 go_wp2
 go_ret2
 exact ⟨by rw [HR.out]; rfl, M6.out.below⟩
theorem imgText (x : Image) : ∃ (t : ByteArray) (b : Bool),
  (∀ (A0 : Option Addr) (c0 : Nat) (A1 : Option Addr) (c1 : Nat) (w : World), x.funcs.length ≤ c0 → kFuncI.C w A0 x.funcs.length x.funcs → x.consts.length ≤ c1 → kConst.C w A1 x.consts.length x.consts → (∀ y ∈ x.consts, 0 ≤ y.num ∧ y.num < 18446744073709551616) →
   Calls Try.prog 45 #[.agg #[.slice A0 x.funcs.length c0, .slice A1 x.consts.length c1]] w fun e w' => e = .returned (.tuple #[.string (imgR x t b).1, .bool (imgR x t b).2]) ∧ Below w.heap.size w w') ∧
  (∀ (A0 : Option Addr) (c0 : Nat) (A1 : Option Addr) (c1 : Nat) (w : World), x.funcs.length ≤ c0 → kFuncI.C w A0 x.funcs.length x.funcs → x.consts.length ≤ c1 → kConst.C w A1 x.consts.length x.consts → (∀ y ∈ x.consts, 0 ≤ y.num ∧ y.num < 18446744073709551616) →
   Calls Try.prog 46 #[.agg #[.slice A0 x.funcs.length c0, .slice A1 x.consts.length c1]] w fun e w' => e = .returned (.tuple #[.string (imgR x t b).1, .bool (imgR x t b).2]) ∧ Below w.heap.size w w') := by
 obtain ⟨t, b, h1, h2⟩ := cSeal (strOfNums (imgL x))
 exact ⟨t, b, fun A0 c0 A1 c1 w l0 g0 l1 g1 hn => cImgS x t b A0 c0 A1 c1 w h1 l0 g0 l1 g1 hn, fun A0 c0 A1 c1 w l0 g0 l1 g1 hn => cImgI x t b A0 c0 A1 c1 w h2 l0 g0 l1 g1 hn⟩
end Go.Proofs.Ytcbaokflimdjnaa.Law
end
section
namespace Go.Proofs.Ytcbaokflimdjnaa
open Go.RowKit Go.Proofs.YtcbaokflimdjnaaW.PrintWords Go.Proofs.YtcbaokflimdjnaaW.PrintMore
def sliceS {α : Type} (e : Nat) (d : Kd α) : Kd (List α) where
 sz := 1
 E := e :: d.E
 K := (Kd.slice e d).K
 M := fun w base ok xs cs => ∃ v, cs = [v] ∧ Kd.S d e w base ok v xs
 K_len := (Kd.slice e d).K_len
 K_one := (Kd.slice e d).K_one
 K_below := (Kd.slice e d).K_below
 K_of_M := fun ⟨v, h, hs⟩ => (Kd.slice e d).K_of_M ⟨v, h, Kd.S_R hs⟩
 M_mono := fun hok ⟨v, h, hs⟩ => ⟨v, h, Kd.S_mono hs hok⟩
 M_bound := fun ⟨v, h, hs⟩ => ⟨v, h, Kd.S_bound hs⟩
 M_move := fun hm ⟨v, h, hs⟩ => ⟨v, h, Kd.S_move hs hm⟩
 M_lower := fun hb ⟨v, h, hs⟩ => ⟨v, h, Kd.S_lower hs hb⟩
def kImageA : Kd Image := Kd.iso (Kd.pair (sliceS 73 kFuncI) (Kd.slice 100 kConst)) (fun x : Image => (x.funcs, x.consts))
theorem kImageA_K (w : World) (x : Image) (cs : List Value) : kImageA.K w x cs = kImageI.K w x cs := rfl
theorem kImageA_openM {w : World} {base : Nat} {ok : Nat → Prop} {x : Image} {cs : List Value} (h : kImageA.M w base ok x cs) : ∃ v0 v1, cs = [v0, v1] ∧ Kd.S kFuncI 73 w base ok v0 x.funcs ∧ kConst.R 100 w base ok v1 x.consts := by
 obtain ⟨_, _, rfl, ⟨v0, rfl, g0⟩, ⟨v1, rfl, g1⟩⟩ := h
 exact ⟨v0, v1, rfl, g0, g1⟩
theorem kImageA_mkM (w : World) (base : Nat) (ok : Nat → Prop) (x : Image) {v0 : Value} (g0 : Kd.S kFuncI 73 w base ok v0 x.funcs) {v1 : Value} (g1 : kConst.R 100 w base ok v1 x.consts) : kImageA.M w base ok x [v0, v1] := ⟨_, _, rfl, ⟨_, rfl, g0⟩, ⟨_, rfl, g1⟩⟩
end Go.Proofs.Ytcbaokflimdjnaa
end
section
namespace Go.Proofs.Ytcbaokflimdjnaa.Law
open Go.RowKit Go.Proofs.YtcbaokflimdjnaaW.PrintWords Go.Proofs.YtcbaokflimdjnaaW.PrintLast Go.Proofs.Ytcbaokflimdjnaa.Steps Go.Proofs.YtcbaokflimdjnaaW.PrintMore Go.Proofs.Ytcbaokflimdjnaa.Num Go.Proofs.Ytcbaokflimdjnaa
theorem unseal_of (t : ByteArray) (ht : t.size ≤ 1048576) : ∃ (s : ByteArray) (ok : Bool), (s.size ≤ 12000) ∧ (∀ w : World, Calls Try.prog 81 #[.string t] w fun e w' => e = .returned (.tuple #[.string s, .bool ok]) ∧ Below w.heap.size w w') ∧
  ∀ w : World, Calls Try.prog 87 #[.string t] w fun e w' => e = .returned (.tuple #[.string s, .bool ok]) ∧ Below w.heap.size w w' := by
 have key : ∃ (r : ByteArray × Bool) (k : Nat), r.1.size ≤ 12000 ∧ Go.Proofs.Ytcbaokflimdjnaa.QFnExactReadImage.spec_Unsealed.f k t = some r ∧ Go.Proofs.Ytcbaokflimdjnaa.QFnExactReadImage.impl_Unsealed.f k t = some r := by
  unfold Go.Proofs.Ytcbaokflimdjnaa.QFnExactReadImage.spec_Unsealed.f Go.Proofs.Ytcbaokflimdjnaa.QFnExactReadImage.impl_Unsealed.f Go.Proofs.Ytcbaokflimdjnaa.QFnExactReadImage.impl_within.f
  have e : wrap64 ((t.size : Int) - 4) = (t.size : Int) - 4 := wrap64_id (by omega) (by omega)
  rw [e]
  by_cases h0 : (t.size : Int) - 4 < 0
  ·refine ⟨(⟨#[]⟩, false), 0, Nat.zero_le _, by rw [if_pos h0], ?_⟩
   rw [if_neg (show ¬ (t.size : Int) - 4 ≥ 0 by omega)]
   rfl
  ·by_cases h1 : (t.size : Int) - 4 > 12000
   ·refine ⟨(⟨#[]⟩, false), 0, Nat.zero_le _, by rw [if_neg h0, if_pos h1], ?_⟩
    rw [if_pos (show (t.size : Int) - 4 ≥ 0 by omega), decide_eq_false (show ¬ (t.size : Int) - 4 ≤ 12000 by omega)]
    rfl
   ·have hsz : (t.extract 0 ((t.size : Int) - 4).toNat).size ≤ 12000 := by rw [ByteArray.size_extract]; omega
    obtain ⟨r, hr⟩ := sum_of (t.extract 0 ((t.size : Int) - 4).toNat) (by omega)
    have hk := hr _ (Nat.le_refl _)
    obtain ⟨k, hke⟩ : ∃ k, k = 10 * (t.extract 0 ((t.size : Int) - 4).toNat).size + 1 := ⟨_, rfl⟩
    rw [← hke] at hk
    clear hke
    by_cases hq : (t.extract ((t.size : Int) - 4).toNat t.size).toList = (strOfNums [(r / 16777216) % 256, (r / 65536) % 256, (r / 256) % 256, r % 256]).toList
    ·refine ⟨(t.extract 0 ((t.size : Int) - 4).toNat, true), k, hsz, ?_, ?_⟩
     ·rw [if_neg h0, if_neg h1, if_pos (show 0 ≤ (t.size : Int) - 4 by omega), if_pos (show (t.size : Int) - 4 ≤ (t.size : Int) by omega), hk.1]
      exact if_pos hq
     ·rw [if_pos (show (t.size : Int) - 4 ≥ 0 by omega), decide_eq_true (show (t.size : Int) - 4 ≤ 12000 by omega), Option.bind_some, if_pos rfl, if_pos (show 0 ≤ (t.size : Int) - 4 by omega), if_pos (show (t.size : Int) - 4 ≤ (t.size : Int) by omega), hk.2]
      exact if_pos hq
    ·refine ⟨(⟨#[]⟩, false), k, Nat.zero_le _, ?_, ?_⟩
     ·rw [if_neg h0, if_neg h1, if_pos (show 0 ≤ (t.size : Int) - 4 by omega), if_pos (show (t.size : Int) - 4 ≤ (t.size : Int) by omega), hk.1]
      exact if_neg hq
     ·rw [if_pos (show (t.size : Int) - 4 ≥ 0 by omega), decide_eq_true (show (t.size : Int) - 4 ≤ 12000 by omega), Option.bind_some, if_pos rfl, if_pos (show 0 ≤ (t.size : Int) - 4 by omega), if_pos (show (t.size : Int) - 4 ≤ (t.size : Int) by omega), hk.2]
      exact if_neg hq
 obtain ⟨⟨s, ok⟩, k, hs, h1, h2⟩ := key
 exact ⟨s, ok, hs, fun w => Go.Proofs.Ytcbaokflimdjnaa.QFnExactReadImage.spec_Unsealed.calls k t s ok w h1, fun w => Go.Proofs.Ytcbaokflimdjnaa.QFnExactReadImage.impl_Unsealed.calls k t s ok w h2⟩
def TextOf (F : Image → ByteArray × Bool) : Prop := ∀ x : Image, (imgB x = false → (F x).2 = false) ∧
  (∀ (A0 : Option Addr) (c0 : Nat) (A1 : Option Addr) (c1 : Nat) (w : World), x.funcs.length ≤ c0 → kFuncI.C w A0 x.funcs.length x.funcs → x.consts.length ≤ c1 → kConst.C w A1 x.consts.length x.consts → (∀ y ∈ x.consts, 0 ≤ y.num ∧ y.num < 18446744073709551616) →
   Calls Try.prog 45 #[.agg #[.slice A0 x.funcs.length c0, .slice A1 x.consts.length c1]] w fun e w' => e = .returned (.tuple #[.string (F x).1, .bool (F x).2]) ∧ Below w.heap.size w w') ∧
  (∀ (A0 : Option Addr) (c0 : Nat) (A1 : Option Addr) (c1 : Nat) (w : World), x.funcs.length ≤ c0 → kFuncI.C w A0 x.funcs.length x.funcs → x.consts.length ≤ c1 → kConst.C w A1 x.consts.length x.consts → (∀ y ∈ x.consts, 0 ≤ y.num ∧ y.num < 18446744073709551616) →
   Calls Try.prog 46 #[.agg #[.slice A0 x.funcs.length c0, .slice A1 x.consts.length c1]] w fun e w' => e = .returned (.tuple #[.string (F x).1, .bool (F x).2]) ∧ Below w.heap.size w w')
theorem text_of : ∃ F, TextOf F := by
 have h : ∀ x : Image, ∃ r : ByteArray × Bool, (imgB x = false → r.2 = false) ∧
   (∀ (A0 : Option Addr) (c0 : Nat) (A1 : Option Addr) (c1 : Nat) (w : World), x.funcs.length ≤ c0 → kFuncI.C w A0 x.funcs.length x.funcs → x.consts.length ≤ c1 → kConst.C w A1 x.consts.length x.consts → (∀ y ∈ x.consts, 0 ≤ y.num ∧ y.num < 18446744073709551616) →
    Calls Try.prog 45 #[.agg #[.slice A0 x.funcs.length c0, .slice A1 x.consts.length c1]] w fun e w' => e = .returned (.tuple #[.string r.1, .bool r.2]) ∧ Below w.heap.size w w') ∧
   (∀ (A0 : Option Addr) (c0 : Nat) (A1 : Option Addr) (c1 : Nat) (w : World), x.funcs.length ≤ c0 → kFuncI.C w A0 x.funcs.length x.funcs → x.consts.length ≤ c1 → kConst.C w A1 x.consts.length x.consts → (∀ y ∈ x.consts, 0 ≤ y.num ∧ y.num < 18446744073709551616) →
    Calls Try.prog 46 #[.agg #[.slice A0 x.funcs.length c0, .slice A1 x.consts.length c1]] w fun e w' => e = .returned (.tuple #[.string r.1, .bool r.2]) ∧ Below w.heap.size w w') := by
  intro x
  obtain ⟨t, b, h1, h2⟩ := imgText x
  exact ⟨imgR x t b, fun hb => by unfold imgR; rw [if_neg (by rw [hb]; decide)], h1, h2⟩
 exact ⟨fun x => Classical.choose (h x), fun x => Classical.choose_spec (h x)⟩
def idoom (x : Image) : Prop := (x.consts.length : Int) > 40 ∨ ((x.funcs.length : Int) > 16 ∨ ∃ f ∈ x.funcs, fdoom f)
theorem doom_no {x : Image} (h : idoom x) : imgB x = false := by
 cases hi : imgB x with
 | false => rfl
 | true =>
  exfalso
  have hl := img_len hi
  rcases h with h | h | ⟨f, hf, h⟩
  ·omega
  ·omega
  ·have ok := FOk.of (img_func hi hf)
   have h1 := ok.caps; have h2 := ok.code; have h3 := ok.hands
   rcases h with h | h | h <;> omega
def riA (F : Image → ByteArray × Bool) (t : ByteArray) (x : Image) : Image × Bool := if (F x).2 = true ∧ (F x).1.toList = t.toList then (x, true) else (⟨[], []⟩, false)
def riR (F : Image → ByteArray × Bool) (t s : ByteArray) (ok : Bool) : Image × Bool :=
 if ok = true ∧ 3 ≤ s.size then (match pimg s 3 with
  | some (x, _) => riA F t x
  | none => (⟨[], []⟩, false)) else (⟨[], []⟩, false)
theorem ri_end {F : Image → ByteArray × Bool} (hF : TextOf F) {t s : ByteArray} {ok : Bool} {x : Image} {a' : Nat} {bad' : Bool} (bad : Bool) (hb : bad = !(ok && decide (3 ≤ s.size))) (h : Rel idoom (pimg s) 3 bad x a' bad') :
  riR F t s ok = if bad' = true then (⟨[], []⟩, false) else riA F t x := by
 have no : imgB x = false → riA F t x = (⟨[], []⟩, false) := fun hi => by
  unfold riA
  rw [if_neg]
  rintro ⟨h1, _⟩
  rw [(hF x).1 hi] at h1
  cases h1
 unfold riR
 cases bad with
 | true =>
  have e := h.bad
  subst e
  rw [if_pos rfl, if_neg]
  rintro ⟨h1, h2⟩
  rw [h1, decide_eq_true h2] at hb
  cases hb
 | false =>
  have hc : ok = true ∧ 3 ≤ s.size := by
   cases ok with
   | false => cases hb
   | true =>
    refine ⟨rfl, ?_⟩
    by_cases h3 : 3 ≤ s.size
    ·exact h3
    ·rw [decide_eq_false h3] at hb; cases hb
  rw [if_pos hc]
  unfold Rel at h
  rw [if_neg (by decide)] at h
  cases hp : pimg s 3 with
  | some y =>
   obtain ⟨x0, a0⟩ := y
   rw [hp] at h
   obtain ⟨rfl, rfl, rfl⟩ := h
   rw [if_neg (by decide)]
  | none =>
   rw [hp] at h
   rcases h with h | h
   ·rw [if_pos h]
   ·cases bad' with
    | true => rw [if_pos rfl]
    | false => rw [if_neg (by decide), no (doom_no h)]
theorem Mem.growS {w W w1 : World} {A B : List Hold} {lo hi : Nat} {l l1 : List Func} {v v1 : Value} (h : Mem w W (A ++ Hold.val (sliceS 73 kFuncI) lo hi l [v] :: B)) (hH : ∀ x ∈ A ++ B, x.hi ≤ lo) (hb : Below lo W w1) (hr : Kd.S kFuncI 73 w1 lo (fun k => lo ≤ k) v1 l1) : Mem w w1 (A ++ Hold.val (sliceS 73 kFuncI) lo w1.heap.size l1 [v1] :: B) := by
 have ha := h.apart
 rw [List.pairwise_append] at ha
 obtain ⟨hA, hB, hAB⟩ := ha
 rw [List.pairwise_cons] at hB
 have hf := h.fits _ (List.mem_append_right _ List.mem_cons_self)
 have hlo : w.heap.size ≤ lo := hf.1
 have hHA : ∀ x ∈ A, x.hi ≤ lo := fun x hx => hH x (List.mem_append_left _ hx)
 have hHB : ∀ x ∈ B, x.hi ≤ lo := fun x hx => hH x (List.mem_append_right _ hx)
 refine ⟨h.below.trans ⟨hb.os, hb.tape, hb.output, hb.size, fun i hi => hb.block i (Nat.lt_of_lt_of_le hi hlo)⟩, fun x hx => ?_, fun x hx => ?_, ?_⟩
 ·rcases List.mem_append.1 hx with hx | hx
  ·exact x.mv (fun k _ h2 _ => hb.block k (Nat.lt_of_lt_of_le h2 (hHA x hx))) (h.says x (List.mem_append_left _ hx))
  ·rcases List.mem_cons.1 hx with rfl | hx
   ·exact ⟨v1, rfl, Kd.S_mono (Kd.S_bound hr) (fun k hk => ⟨hk.1, hk.2.2.1⟩)⟩
   ·exact x.mv (fun k _ h2 _ => hb.block k (Nat.lt_of_lt_of_le h2 (hHB x hx))) (h.says x (List.mem_append_right _ (.tail _ hx)))
 ·rcases List.mem_append.1 hx with hx | hx
  ·have := h.fits x (List.mem_append_left _ hx)
   exact ⟨this.1, Nat.le_trans this.2 hb.size⟩
  ·rcases List.mem_cons.1 hx with rfl | hx
   ·exact ⟨hlo, Nat.le_refl _⟩
   ·have := h.fits x (List.mem_append_right _ (.tail _ hx))
    exact ⟨this.1, Nat.le_trans this.2 hb.size⟩
 ·rw [List.pairwise_append]
  refine ⟨hA, List.pairwise_cons.2 ⟨fun x hx => .inl (hHB x hx), hB.2⟩, fun c hc b hb' => ?_⟩
  rcases List.mem_cons.1 hb' with rfl | hb'
  ·exact .inr (hHA c hc)
  ·exact hAB c hc b (List.mem_cons_of_mem _ hb')
theorem Mem.rowS {w W : World} {H : List Hold} {lo hi : Nat} {l : List Func} {v : Value} (h : Mem w W H) (hm : Hold.val (sliceS 73 kFuncI) lo hi l [v] ∈ H) : Kd.S kFuncI 73 W lo (fun k => lo ≤ k ∧ k < hi) v l := by
 obtain ⟨u, e, hs⟩ := h.val hm
 cases e
 exact hs
end Go.Proofs.Ytcbaokflimdjnaa.Law
end
section
namespace Go.Proofs.Ytcbaokflimdjnaa.Law
open Go.RowKit Go.Proofs.YtcbaokflimdjnaaW.PrintWords Go.Proofs.YtcbaokflimdjnaaW.PrintLast Go.Proofs.Ytcbaokflimdjnaa.Steps Go.Proofs.YtcbaokflimdjnaaW.PrintMore Go.Proofs.Ytcbaokflimdjnaa.Num Go.Proofs.Ytcbaokflimdjnaa
def RIPost (w : World) (r : Image × Bool) (e : Ending) (w' : World) : Prop := ∃ ds, e = .returned (.tuple #[.agg ⟨ds⟩, .bool r.2]) ∧ kImageA.M w' w.heap.size (fun _ => True) r.1 ds ∧ Below w.heap.size w w'
set_option maxHeartbeats 16000000 in
set_option maxRecDepth 100000 in
theorem cReadI (F : Image → ByteArray × Bool) (hF : TextOf F) (t s : ByteArray) (ok : Bool) (hs : s.size ≤ 12000) (hU : ∀ w : World, Calls Try.prog 87 #[.string t] w fun e w' => e = .returned (.tuple #[.string s, .bool ok]) ∧ Below w.heap.size w w') (w : World) :
  Calls Try.prog 48 #[.string t] w fun e w' => RIPost w (riR F t s ok) e w' := by
 have hu0 := Try.underlying37; have hu1 := Try.underlying120; have hu2 := Try.underlying73; have hu3 := Try.underlying100; have hu4 := Try.underlying35; have hu5 := Try.underlying34; have hu6 := Try.underlying3; have hu7 := Try.underlying98; have hu8 := Try.underlying9
 have HU := Aside0.mk hU; clear hU
 have M0 := Aside0.mk ((Mem.start w).allocAt rfl #[.slice none 0 0, .slice none 0 0] 37)
 go_enter Try.func48, Try.ntmps48
 go_wp2_with fail
 refine (HU.out _).mono ?_
 rintro e w1 ⟨rfl, hb⟩
 have M1 := Aside0.mk (M0.out.step hb); clear hb M0 HU
 by_cases hok : ok = true ∧ 3 ≤ s.size
 rotate_left
 ·have HR := Aside0.mk (show riR F t s ok = (⟨[], []⟩, false) from if_neg hok)
  cases ok with
  | false =>
   clear hok
   have b0 := M1.out.box (.head _); have b1 := M1.out.free (.head _)
   have M8 := Aside0.mk (Mem.set (A := []) (Mem.set (A := []) M1.out 0 (.slice none 0 0) rfl) 1 (.slice none 0 0) rfl)
   clear M1
   go_wp2
   refine bodyPost_ret (results_ct rfl _ _ w.heap.size 37 #[.slice none 0 0, .slice none 0 0] (0, 0) _ rfl (M8.out.blk (.head _)) hu0 rfl (by kernel_rfl)) rfl ?_
   exact ⟨_, congrArg Ending.returned (by rw [HR.out]; rfl), by rw [HR.out]; exact kImageA_mkM _ _ _ ⟨[], []⟩ (Kd.S_nil _ _ _ _ _) (Kd.R_nil _ _ _ _ _), M8.out.below⟩
  | true =>
   have hsz : (s.size : Int) < 3 := by
    by_cases h : 3 ≤ s.size
    ·exact absurd ⟨rfl, h⟩ hok
    ·omega
   clear hok
   have b0 := M1.out.box (.head _); have b1 := M1.out.free (.head _)
   have M8 := Aside0.mk (Mem.set (A := []) (Mem.set (A := []) M1.out 0 (.slice none 0 0) rfl) 1 (.slice none 0 0) rfl)
   clear M1
   go_wp2
   refine bodyPost_ret (results_ct rfl _ _ w.heap.size 37 #[.slice none 0 0, .slice none 0 0] (0, 0) _ rfl (M8.out.blk (.head _)) hu0 rfl (by kernel_rfl)) rfl ?_
   exact ⟨_, congrArg Ending.returned (by rw [HR.out]; rfl), by rw [HR.out]; exact kImageA_mkM _ _ _ ⟨[], []⟩ (Kd.S_nil _ _ _ _ _) (Kd.R_nil _ _ _ _ _), M8.out.below⟩
 obtain ⟨hok1, hsz3⟩ := hok
 subst hok1
 have hsz : ¬ (s.size : Int) < 3 := by omega
 obtain ⟨gr, hgr⟩ : ∃ gr, gr = w1.heap.size := ⟨_, rfl⟩
 obtain ⟨g7, hg7⟩ : ∃ g7, g7 = (w1.alloc (.cells #[.string s, .int .i64 ((3 : Nat) : Int), .bool false] 120)).heap.size := ⟨_, rfl⟩
 have M2 : Aside0 (Mem w ((w1.alloc (.cells #[.string s, .int .i64 ((3 : Nat) : Int), .bool false] 120)).alloc (.cells #[.slice none 0 0, .slice none 0 0] 37)) [Hold.box gr #[.string s, .int .i64 ((3 : Nat) : Int), .bool false] 120, Hold.box g7 #[.slice none 0 0, .slice none 0 0] 37, Hold.box w.heap.size #[.slice none 0 0, .slice none 0 0] 37]) := ⟨((M1.out.allocAt hgr _ _).allocAt hg7 _ _).swap2⟩
 have HG := Aside0.mk (show w.heap.size + 1 ≤ gr ∧ gr + 1 ≤ g7 from ⟨by rw [hgr]; exact (M1.out.fits _ (.head _)).2, by rw [hg7, hgr]; simp⟩)
 clear M1
 go_upto_region 6 with fail
 have hg7' : w1.heap.size + 1 = g7 := by rw [hg7]; simp
 rw [hg7', ← hgr]
 generalize hW2 : (w1.alloc (.cells #[.string s, .int .i64 ((3 : Nat) : Int), .bool false] 120)).alloc (.cells #[.slice none 0 0, .slice none 0 0] 37) = W2 at M2
 have hW2' : (w1.alloc (.cells #[.string s, .int .i64 3, .bool false] 120)).alloc (.cells #[.slice none 0 0, .slice none 0 0] 37) = W2 := hW2
 try rw [hW2']
 clear hW2 hW2' hg7' hg7 hgr
 have HV := Aside0.mk (cManyI s 3 false 40 hs hsz3); have hr := rel_var s 3 false; have hi := stV_in s hsz3 false
 have HR1 := Aside0.mk hr; clear hr
 unfold stM at HV
 generalize stV s 3 false = r at HV HR1 hi
 obtain ⟨n0v, a1, b1v⟩ := r
 simp only at HV HR1 hi
 have hv1 := hi.1; have ha1 := hi.2; clear hi
 obtain ⟨n0, b1, hmany, HM1⟩ : ∃ (n0 : Int) (b1 : Bool), (if n0v > 40 then ((0 : Int), a1, true) else (n0v, a1, b1v)) = (n0, a1, b1) ∧ Aside0 ((n0v > 40 ∧ n0 = 0 ∧ b1 = true) ∨ (¬ n0v > 40 ∧ n0 = n0v ∧ b1 = b1v)) := by
  by_cases hm : n0v > 40
  ·exact ⟨0, true, if_pos hm, ⟨.inl ⟨hm, rfl, rfl⟩⟩⟩
  ·exact ⟨n0v, b1v, if_neg hm, ⟨.inr ⟨hm, rfl, rfl⟩⟩⟩
 rw [hmany] at HV
 simp only at HV
 clear hmany
 go_wp2_with fail
 refine (HV.out w _ _ gr M2.out).mono ?_
 rintro e w10 ⟨rfl, h⟩
 have M7_0 : Aside0 (Mem w w10 [Hold.box gr #[.string s, .int .i64 (a1 : Int), .bool b1] 120, Hold.box g7 #[.slice none 0 0, .slice none 0 0] 37, Hold.box w.heap.size #[.slice none 0 0, .slice none 0 0] 37]) := ⟨h⟩
 clear h HV M2
 have hnn : 0 ≤ n0 ∧ n0 ≤ 40 := by rcases HM1.out with h | h <;> omega
 have HF0 := Aside0.mk (show (gr + 1 ≤ w10.heap.size ∧ g7 + 1 ≤ w10.heap.size ∧ w.heap.size + 1 ≤ w10.heap.size) ∧ True from ⟨⟨(M7_0.out.fits _ (.head _)).2, (M7_0.out.fits _ (.tail _ (.head _))).2, (M7_0.out.fits _ (.tail _ (.tail _ (.head _)))).2⟩, trivial⟩)
 have M8 : Aside0 (Mem w w10 [Hold.box gr #[.string s, .int .i64 (a1 : Int), .bool b1] 120, Hold.val (Kd.slice 100 kConst) w10.heap.size w10.heap.size [] [.slice none 0 0], Hold.box g7 #[.slice none 0 0, .slice none 0 0] 37, Hold.box w.heap.size #[.slice none 0 0, .slice none 0 0] 37]) := ⟨(M7_0.out.push (d := Kd.slice 100 kConst) (x := []) (cs := [.slice none 0 0]) (Below.refl _ _) ⟨_, rfl, Kd.R_nil kConst 100 _ _ _⟩).swap2⟩
 obtain ⟨lo0, hlo⟩ : ∃ lo : Nat, lo = w10.heap.size := ⟨_, rfl⟩
 rw [← hlo] at M8 HF0
 clear hlo M7_0
 go_upto_region 7 with fail
 go_loopw [31] (fun v wx => ∃ (k aL0 hi0 : Nat) (bL0 : Bool) (l0 : List Const) (X0 : Option Addr) (Y0 : Nat), v = .int .i64 k ∧ (k : Int) ≤ n0 ∧ k ≤ 1000 ∧ aL0 ≤ s.size ∧ lo0 ≤ hi0 ∧ Aside0 (∀ z ∈ l0, 0 ≤ z.num ∧ z.num < 18446744073709551616) ∧ Aside0 (RInv No (pconst s) a1 b1 k l0 aL0 bL0) ∧ Aside0 (Mem w wx [Hold.box gr #[.string s, .int .i64 (aL0 : Int), .bool bL0] 120, Hold.val (Kd.slice 100 kConst) lo0 hi0 l0 [.slice X0 l0.length Y0], Hold.box g7 #[.slice none 0 0, .slice X0 l0.length Y0] 37, Hold.box w.heap.size #[.slice none 0 0, .slice none 0 0] 37])) (fun v _ => 1001 - (intOf v).toNat)
 case atStart => exact ⟨0, a1, lo0, b1, [], none, 0, rfl, by omega, by omega, ha1, Nat.le_refl _, ⟨fun z hz => absurd hz List.not_mem_nil⟩, ⟨RInv.start _ _ _ _⟩, M8⟩
 case round =>
 clear M8
 obtain ⟨k, aL0, hi0, bL0, l0, X0, Y0, rfl, hkn, hk1000, haL0, hhi0, HNM, HJ, M0z⟩ := hrel
 have hll0 := HJ.out.1
 by_cases hc : (k : Int) < n0
 ·have hk2 : k < 1000 := by omega
  have hkn2 := hc
  go_upto_region 8 with fail
  go_wp2_with fail
  refine (cConstI s aL0 bL0 hs haL0 w _ _ gr M0z.out).mono ?_
  rintro e w5 ⟨c, a5, b5, rfl, h, ha5, hnum, hX⟩
  have M10 : Aside0 (Mem w w5 [Hold.box gr #[.string s, .int .i64 (a5 : Int), .bool b5] 120, Hold.val (Kd.slice 100 kConst) lo0 hi0 l0 [.slice X0 l0.length Y0], Hold.box g7 #[.slice none 0 0, .slice X0 l0.length Y0] 37, Hold.box w.heap.size #[.slice none 0 0, .slice none 0 0] 37]) := ⟨h⟩
  have HX := Aside0.mk hX
  clear h hX M0z
  obtain ⟨ge, hge⟩ : ∃ ge, ge = w5.heap.size := ⟨_, rfl⟩
  have M11 := Aside0.mk (M10.out.allocAt hge #[.int .i64 c.kind, .int .u64 c.num, .string c.text] 100)
  go_upto_region 9 with fail
  rw [← hge]
  generalize hWe : w5.alloc (.cells #[.int .i64 c.kind, .int .u64 c.num, .string c.text] 100) = We at M11 ⊢
  clear hWe hge
  have ze := M11.out.box (.head _)
  have M12 := Aside0.mk M11.out.drop
  clear M11 M10
  have zg := M12.out.box (.tail _ (.tail _ (.head _))); have fg := M12.out.free (.tail _ (.tail _ (.head _)))
  have hlw : lo0 ≤ We.heap.size := Nat.le_trans hhi0 (M12.out.fits _ (.tail _ (.head _))).2
  go_wp2_with (((with_reducible refine gate_builtin (b := .append) (xs := #[.tmp 36, .tmp 38]) rfl ?_); at_builtin; refine Aside0.out ?_))
  refine ⟨?_⟩
  refine Kd.R_append kConst (w0 := We) lo0 rfl (.tmp 36) (.tmp 38) 35 100 (.agg #[.int .i64 0, .int .u64 0, .string (⟨#[]⟩ : ByteArray)]) 32 rfl Try.underlying35 (by kernel_rfl) rfl (by decide) (by decide) (.slice X0 l0.length Y0) l0 c [.int .i64 c.kind, .int .u64 c.num, .string c.text] (fun k => lo0 ≤ k) (fun _ => False) ?aV ?aX (kConst_mkM _ _ _ _) (fun _ h => h.elim) (fun k hk => Nat.le_trans hlw hk) (Kd.R_mono (M12.out.row (.tail _ (.head _))) (fun k hk => hk.1)) (Below.refl _ _) hlw (by omega) ?_
  (case aV => first | rfl | (go_simp; done) | (go_simp; rfl))
  (case aX => first | rfl | (go_simp; done) | (go_simp; rfl))
  intro v9 w9 ho hb9 hg9 hat9; clear hg9 hat9
  obtain ⟨A9, y9, hv9⟩ := Kd.R_slice ho; subst hv9
  obtain ⟨ln, hln⟩ : ∃ ln, ln = l0 ++ [c] := ⟨_, rfl⟩
  have HLN := Aside0.mk hln
  rw [← hln] at ho ⊢
  clear hln
  have MG : Aside0 (Mem w w9 [Hold.box gr #[.string s, .int .i64 (a5 : Int), .bool b5] 120, Hold.val (Kd.slice 100 kConst) lo0 w9.heap.size ln [.slice A9 ln.length y9], Hold.box g7 #[.slice none 0 0, .slice X0 l0.length Y0] 37, Hold.box w.heap.size #[.slice none 0 0, .slice none 0 0] 37]) := ⟨Mem.growAt (A := [_]) M12.out (fun x hx => ?mgo) hb9 ho⟩
  (case mgo =>
   have h1 := HG.out; have h2 := HF0.out
   simp only [List.mem_append, List.mem_cons, List.not_mem_nil, or_false] at hx
   rcases hx with rfl | rfl | rfl
   ·simp only [Hold.box]; omega
   ·simp only [Hold.box]; omega
   ·simp only [Hold.box]; omega)
  have hh9 : lo0 ≤ w9.heap.size := Nat.le_trans hlw hb9.size
  clear ho hb9 M12 ze zg fg
  have zg := MG.out.box (.tail _ (.tail _ (.head _))); have fg := MG.out.free (.tail _ (.tail _ (.head _)))
  have MZ : Aside0 (Mem w (w9.setCell ⟨g7, 1, none⟩ (.slice A9 ln.length y9)) [Hold.box gr #[.string s, .int .i64 (a5 : Int), .bool b5] 120, Hold.val (Kd.slice 100 kConst) lo0 w9.heap.size ln [.slice A9 ln.length y9], Hold.box g7 #[.slice none 0 0, .slice A9 ln.length y9] 37, Hold.box w.heap.size #[.slice none 0 0, .slice none 0 0] 37]) := ⟨Mem.set (A := [_, _]) MG.out 1 (.slice A9 ln.length y9) rfl⟩
  clear MG
  have HJ2 := Aside0.mk (show RInv No (pconst s) a1 b1 (k + 1) ln a5 b5 from by rw [HLN.out]; exact HJ.out.step HX.out)
  have HNM2 := Aside0.mk (show ∀ z ∈ ln, 0 ≤ z.num ∧ z.num < 18446744073709551616 from by
   rw [HLN.out]
   intro z hz
   rcases List.mem_append.1 hz with hz | hz
   ·exact HNM.out z hz
   ·rw [List.mem_singleton.1 hz]; exact hnum)
  go_wp2
  go_roundw
  (case measure => simp [intOf]; omega)
  (case rel => first | exact ⟨k + 1, a5, w9.heap.size, b5, ln, A9, y9, by go_num, by omega, by omega, ha5, hh9, HNM2, HJ2, MZ⟩ | ((repeat apply Exists.intro); exact ⟨⟨k + 1, a5, w9.heap.size, b5, ln, A9, y9, by go_num, by omega, by omega, ha5, hh9, HNM2, HJ2, MZ⟩, rfl⟩))
 have HL0 : Aside0 (Rel (fun l0 : List Const => (l0.length : Int) > 40) (plist (pconst s) 40 s) 3 false l0 aL0 bL0) := ⟨by
  rcases HM1.out with ⟨hm, hn0, hbt⟩ | ⟨hm, hn0, hbt⟩
  ·refine rel_many _ HR1.out hm (fun e => ?_) (.inl ?_)
   ·have h := HJ.out
    rw [hbt] at h
    exact h.stays
   ·have h := HJ.out
    rw [hbt] at h
    exact h.stays
  ·have hkk : k = n0v.toNat := by omega
   subst hkk
   have h := HJ.out
   rw [hbt] at h
   exact Rel.weak (RInv.all HR1.out (by omega) h) (fun l0 h => by obtain ⟨x, _, h⟩ := h; exact h.elim)⟩
 have hcc : ¬ (k : Int) < n0 := hc
 clear HJ hkn hk1000 hll0
 go_upto_region 11 with fail
 have HV := Aside0.mk (cManyI s aL0 bL0 16 hs haL0); have hr := rel_var s aL0 bL0; have hi := stV_in s haL0 bL0
 have HR2 := Aside0.mk hr; clear hr
 unfold stM at HV
 generalize stV s aL0 bL0 = r at HV HR2 hi
 obtain ⟨n1v, a2, b2v⟩ := r
 simp only at HV HR2 hi
 have hv2 := hi.1; have ha2 := hi.2; clear hi
 obtain ⟨n1, b2, hmany, HM2⟩ : ∃ (n1 : Int) (b2 : Bool), (if n1v > 16 then ((0 : Int), a2, true) else (n1v, a2, b2v)) = (n1, a2, b2) ∧ Aside0 ((n1v > 16 ∧ n1 = 0 ∧ b2 = true) ∨ (¬ n1v > 16 ∧ n1 = n1v ∧ b2 = b2v)) := by
  by_cases hm : n1v > 16
  ·exact ⟨0, true, if_pos hm, ⟨.inl ⟨hm, rfl, rfl⟩⟩⟩
  ·exact ⟨n1v, b2v, if_neg hm, ⟨.inr ⟨hm, rfl, rfl⟩⟩⟩
 rw [hmany] at HV
 simp only at HV
 clear hmany
 go_wp2_with fail
 refine (HV.out w _ _ gr M0z.out).mono ?_
 rintro e w20 ⟨rfl, h⟩
 have M7_1 : Aside0 (Mem w w20 [Hold.box gr #[.string s, .int .i64 (a2 : Int), .bool b2] 120, Hold.val (Kd.slice 100 kConst) lo0 hi0 l0 [.slice X0 l0.length Y0], Hold.box g7 #[.slice none 0 0, .slice X0 l0.length Y0] 37, Hold.box w.heap.size #[.slice none 0 0, .slice none 0 0] 37]) := ⟨h⟩
 clear h HV M0z
 have hnn : 0 ≤ n1 ∧ n1 ≤ 16 := by rcases HM2.out with h | h <;> omega
 have HF1 := Aside0.mk (show (gr + 1 ≤ w20.heap.size ∧ g7 + 1 ≤ w20.heap.size ∧ w.heap.size + 1 ≤ w20.heap.size) ∧ hi0 ≤ w20.heap.size from ⟨⟨(M7_1.out.fits _ (.head _)).2, (M7_1.out.fits _ (.tail _ (.tail _ (.head _)))).2, (M7_1.out.fits _ (.tail _ (.tail _ (.tail _ (.head _))))).2⟩, (M7_1.out.fits _ (.tail _ (.head _))).2⟩)
 have M8 : Aside0 (Mem w w20 [Hold.box gr #[.string s, .int .i64 (a2 : Int), .bool b2] 120, Hold.val (sliceS 73 kFuncI) w20.heap.size w20.heap.size [] [.slice none 0 0], Hold.val (Kd.slice 100 kConst) lo0 hi0 l0 [.slice X0 l0.length Y0], Hold.box g7 #[.slice none 0 0, .slice X0 l0.length Y0] 37, Hold.box w.heap.size #[.slice none 0 0, .slice none 0 0] 37]) := ⟨(M7_1.out.push (d := sliceS 73 kFuncI) (x := []) (cs := [.slice none 0 0]) (Below.refl _ _) ⟨_, rfl, Kd.S_nil kFuncI 73 _ _ _⟩).swap2⟩
 obtain ⟨lo1, hlo⟩ : ∃ lo : Nat, lo = w20.heap.size := ⟨_, rfl⟩
 rw [← hlo] at M8 HF1
 clear hlo M7_1
 go_upto_region 12 with fail
 go_loopw [44] (fun v wx => ∃ (k aL1 hi1 : Nat) (bL1 : Bool) (l1 : List Func) (X1 : Option Addr) (Y1 : Nat), v = .int .i64 k ∧ (k : Int) ≤ n1 ∧ k ≤ 1000 ∧ aL1 ≤ s.size ∧ lo1 ≤ hi1 ∧ Aside0 (RInv fdoom (pfunc s) a2 b2 k l1 aL1 bL1) ∧ Aside0 (Mem w wx [Hold.box gr #[.string s, .int .i64 (aL1 : Int), .bool bL1] 120, Hold.val (sliceS 73 kFuncI) lo1 hi1 l1 [.slice X1 l1.length Y1], Hold.val (Kd.slice 100 kConst) lo0 hi0 l0 [.slice X0 l0.length Y0], Hold.box g7 #[.slice X1 l1.length Y1, .slice X0 l0.length Y0] 37, Hold.box w.heap.size #[.slice none 0 0, .slice none 0 0] 37])) (fun v _ => 1001 - (intOf v).toNat)
 case atStart => exact ⟨0, a2, lo1, b2, [], none, 0, rfl, by omega, by omega, ha2, Nat.le_refl _, ⟨RInv.start _ _ _ _⟩, M8⟩
 case round =>
 clear M8
 obtain ⟨k, aL1, hi1, bL1, l1, X1, Y1, rfl, hkn, hk1000, haL1, hhi1, HJ, M1z⟩ := hrel
 have hll1 := HJ.out.1
 by_cases hc : (k : Int) < n1
 ·have hk2 : k < 1000 := by omega
  have hkn2 := hc
  go_upto_region 13 with fail
  go_wp2_with fail
  have HLW9 := Aside0.mk (Nat.le_trans hhi1 (M1z.out.fits _ (.tail _ (.head _))).2)
  have HHI9 := Aside0.mk (M1z.out.fits _ (.tail _ (.head _))).2
  refine (cFuncI s aL1 bL1 hs haL1 w _ _ gr M1z.out).mono ?_
  rintro e w5 ⟨c, a5, b5, hi5, ds, rfl, h, ha5, hX⟩
  obtain ⟨u2, u3, u4, rfl, hu2_, hu3_, hu4_⟩ := kFuncI_openM (h.val (.head _))
  obtain ⟨P2, Q2, rfl⟩ := Kd.R_slice hu2_; obtain ⟨P3, Q3, rfl⟩ := Kd.R_slice hu3_; obtain ⟨P4, Q4, rfl⟩ := Kd.R_slice hu4_
  clear hu2_ hu3_ hu4_
  have M10 : Aside0 (Mem w w5 [Hold.val kFuncI wr.heap.size hi5 c [.int .i64 c.params, .int .i64 c.regs, .slice P2 c.caps.length Q2, .slice P3 c.code.length Q3, .slice P4 c.handlers.length Q4], Hold.box gr #[.string s, .int .i64 (a5 : Int), .bool b5] 120, Hold.val (sliceS 73 kFuncI) lo1 hi1 l1 [.slice X1 l1.length Y1], Hold.val (Kd.slice 100 kConst) lo0 hi0 l0 [.slice X0 l0.length Y0], Hold.box g7 #[.slice X1 l1.length Y1, .slice X0 l0.length Y0] 37, Hold.box w.heap.size #[.slice none 0 0, .slice none 0 0] 37]) := ⟨h⟩
  have HX := Aside0.mk hX
  clear h hX M1z
  obtain ⟨ge, hge⟩ : ∃ ge, ge = w5.heap.size := ⟨_, rfl⟩
  have M11 := Aside0.mk (M10.out.allocAt hge #[.int .i64 c.params, .int .i64 c.regs, .slice P2 c.caps.length Q2, .slice P3 c.code.length Q3, .slice P4 c.handlers.length Q4] 73)
  go_upto_region 14 with fail
  rw [← hge]
  generalize hWe : w5.alloc (.cells #[.int .i64 c.params, .int .i64 c.regs, .slice P2 c.caps.length Q2, .slice P3 c.code.length Q3, .slice P4 c.handlers.length Q4] 73) = We at M11 ⊢
  clear hWe hge
  have ze := M11.out.box (.head _)
  have M12 := Aside0.mk M11.out.drop
  clear M11 M10
  have zg := M12.out.box (.tail _ (.tail _ (.tail _ (.tail _ (.head _))))); have fg := M12.out.free (.tail _ (.tail _ (.tail _ (.tail _ (.head _)))))
  have hlw : lo1 ≤ We.heap.size := Nat.le_trans hhi1 (M12.out.fits _ (.tail _ (.tail _ (.head _)))).2
  go_wp2_with (((with_reducible refine gate_builtin (b := .append) (xs := #[.tmp 49, .tmp 51]) rfl ?_); at_builtin; refine Aside0.out ?_))
  refine ⟨?_⟩
  have HMV := Aside0.mk (M12.out.val (.head _))
  have hfit := (M12.out.fits _ (.tail _ (.tail _ (.head _)))).2
  have hap := (List.pairwise_cons.1 M12.out.apart).1 _ (.tail _ (.head _))
  have hwr : hi1 ≤ wr.heap.size := HHI9.out
  refine Kd.S_append kFuncI (w0 := We) lo1 rfl (.tmp 49) (.tmp 51) 34 73 (.agg #[.int .i64 0, .int .i64 0, .slice none 0 0, .slice none 0 0, .slice none 0 0]) 88 rfl Try.underlying34 (by kernel_rfl) rfl (by decide) (by decide) (.slice X1 l1.length Y1) l1 c [.int .i64 c.params, .int .i64 c.regs, .slice P2 c.caps.length Q2, .slice P3 c.code.length Q3, .slice P4 c.handlers.length Q4] (fun k => lo1 ≤ k) (fun k => wr.heap.size ≤ k ∧ k < hi5) ?aV ?aX ?aP ?aK (fun k hk => Nat.le_trans hlw hk) ?aO (Below.refl _ _) hlw (by omega) ?_
  (case aP => exact kFuncI.M_lower HLW9.out HMV.out)
  (case aK => exact fun k hk => ⟨Nat.le_trans HLW9.out hk.1, fun e => by have h1 := (Kd.S_R (M12.out.rowS (.tail _ (.tail _ (.head _))))).1 k e.symm; have h2 : k < hi1 := h1.2; have h3 : wr.heap.size ≤ k := hk.1; omega⟩)
  (case aO => exact Kd.S_mono (M12.out.rowS (.tail _ (.tail _ (.head _)))) (fun k hk => ⟨hk.1, fun h => by have h2 : k < hi1 := hk.2; have h3 : wr.heap.size ≤ k := h.1; omega⟩))
  (case aV => first | rfl | (go_simp; done) | (go_simp; rfl))
  (case aX => first | rfl | (go_simp; done) | (go_simp; rfl))
  intro v9 w9 ho hb9 hg9 hat9; clear hg9 hat9
  obtain ⟨A9, y9, hv9⟩ := Kd.R_slice (Kd.S_R ho); subst hv9
  obtain ⟨ln, hln⟩ : ∃ ln, ln = l1 ++ [c] := ⟨_, rfl⟩
  have HLN := Aside0.mk hln
  rw [← hln] at ho ⊢
  clear hln
  have MG : Aside0 (Mem w w9 [Hold.box gr #[.string s, .int .i64 (a5 : Int), .bool b5] 120, Hold.val (sliceS 73 kFuncI) lo1 w9.heap.size ln [.slice A9 ln.length y9], Hold.val (Kd.slice 100 kConst) lo0 hi0 l0 [.slice X0 l0.length Y0], Hold.box g7 #[.slice X1 l1.length Y1, .slice X0 l0.length Y0] 37, Hold.box w.heap.size #[.slice none 0 0, .slice none 0 0] 37]) := ⟨Mem.growS (A := [_]) (M12.out.drop) (fun x hx => ?mgo) hb9 ho⟩
  (case mgo =>
   have h1 := HG.out; have h2 := HF1.out
   simp only [List.mem_append, List.mem_cons, List.not_mem_nil, or_false] at hx
   rcases hx with rfl | rfl | rfl | rfl
   ·simp only [Hold.box]; omega
   ·simp only [Hold.val]; omega
   ·simp only [Hold.box]; omega
   ·simp only [Hold.box]; omega)
  have hh9 : lo1 ≤ w9.heap.size := Nat.le_trans hlw hb9.size
  clear ho hb9 M12 ze zg fg
  have zg := MG.out.box (.tail _ (.tail _ (.tail _ (.head _)))); have fg := MG.out.free (.tail _ (.tail _ (.tail _ (.head _))))
  have MZ : Aside0 (Mem w (w9.setCell ⟨g7, 0, none⟩ (.slice A9 ln.length y9)) [Hold.box gr #[.string s, .int .i64 (a5 : Int), .bool b5] 120, Hold.val (sliceS 73 kFuncI) lo1 w9.heap.size ln [.slice A9 ln.length y9], Hold.val (Kd.slice 100 kConst) lo0 hi0 l0 [.slice X0 l0.length Y0], Hold.box g7 #[.slice A9 ln.length y9, .slice X0 l0.length Y0] 37, Hold.box w.heap.size #[.slice none 0 0, .slice none 0 0] 37]) := ⟨Mem.set (A := [_, _, _]) MG.out 0 (.slice A9 ln.length y9) rfl⟩
  clear MG
  have HJ2 := Aside0.mk (show RInv fdoom (pfunc s) a2 b2 (k + 1) ln a5 b5 from by rw [HLN.out]; exact HJ.out.step HX.out)
  go_wp2
  go_roundw
  (case measure => simp [intOf]; omega)
  (case rel => first | exact ⟨k + 1, a5, w9.heap.size, b5, ln, A9, y9, by go_num, by omega, by omega, ha5, hh9, HJ2, MZ⟩ | ((repeat apply Exists.intro); exact ⟨⟨k + 1, a5, w9.heap.size, b5, ln, A9, y9, by go_num, by omega, by omega, ha5, hh9, HJ2, MZ⟩, rfl⟩))
 have HL1 : Aside0 (Rel (fun l1 : List Func => (l1.length : Int) > 16 ∨ ∃ f ∈ l1, fdoom f) (plist (pfunc s) 16 s) aL0 bL0 l1 aL1 bL1) := ⟨by
  rcases HM2.out with ⟨hm, hn0, hbt⟩ | ⟨hm, hn0, hbt⟩
  ·refine rel_many _ HR2.out hm (fun e => ?_) (.inl ?_)
   ·have h := HJ.out
    rw [hbt] at h
    exact h.stays
   ·have h := HJ.out
    rw [hbt] at h
    exact h.stays
  ·have hkk : k = n1v.toNat := by omega
   subst hkk
   have h := HJ.out
   rw [hbt] at h
   exact Rel.weak (RInv.all HR2.out (by omega) h) (fun l1 h => by exact .inr h)⟩
 have hcc : ¬ (k : Int) < n1 := hc
 clear HJ hkn hk1000 hll1
 obtain ⟨x, hx⟩ : ∃ x : Image, x = ⟨l1, l0⟩ := ⟨_, rfl⟩
 have HREL := Aside0.mk (show Rel idoom (pimg s) 3 false x aL1 bL1 from by
  rw [hx]
  exact Rel.seq HL0.out (Rel.seq HL1.out (rel_ret _ _ _ _) (fun h => .inr h)) (fun h => .inl h))
 have HEND := Aside0.mk (ri_end hF (t := t) (s := s) (ok := true) false (by rw [decide_eq_true hsz3]; rfl) HREL.out)
 have HXX := Aside0.mk hx; clear hx
 obtain ⟨AF, cF, hvF, hlF, hCF⟩ := Kd.R_reads (Kd.S_R (M1z.out.rowS (.tail _ (.head _))))
 obtain ⟨AC, cC, hvC, hlC, hCC⟩ := Kd.R_reads (M1z.out.row (.tail _ (.tail _ (.head _))))
 injection hvF with e1 e2 e3; subst e1; subst e3; clear e2
 injection hvC with e1 e2 e3; subst e1; subst e3; clear e2
 have HT := Aside0.mk (hF x).2.2
 obtain ⟨r, hr⟩ : ∃ r, r = F x := ⟨_, rfl⟩
 have HRA := Aside0.mk (show riA F t x = if r.2 = true ∧ r.1.toList = t.toList then (x, true) else (⟨[], []⟩, false) from by rw [hr]; rfl)
 have HIB := Aside0.mk (hF x).1
 rw [← hr] at HT HIB
 clear hr
 obtain ⟨t1, b1⟩ := r
 simp only at HT HRA HIB
 have z7 := M1z.out.box (.tail _ (.tail _ (.tail _ (.head _))))
 go_upto_region 16 with fail
 go_wp2_with fail
 have C := HT.out X1 Y1 X0 Y0 _ (by rw [HXX.out]; exact hlF) (by rw [HXX.out]; exact hCF) (by rw [HXX.out]; exact hlC) (by rw [HXX.out]; exact hCC) (by rw [HXX.out]; exact HNM.out)
 rw [show x.funcs = l1 from by rw [HXX.out], show x.consts = l0 from by rw [HXX.out]] at C
 refine C.mono ?_
 clear C hCF hCC hlF hlC HT
 rintro e w7 ⟨rfl, hb⟩
 have M20 := Aside0.mk (M1z.out.step hb)
 clear hb z7 M1z
 have z0 := M20.out.box (.head _)
 go_upto_region 17 with fail
 have hcase : bL1 = true ∨ bL1 = false ∧ b1 = false ∨ bL1 = false ∧ b1 = true ∧ ¬ t1.toList = t.toList ∨ bL1 = false ∧ b1 = true ∧ t1.toList = t.toList := by
  cases bL1 <;> cases b1 <;> simp
  exact (Classical.em _).symm
 rcases hcase with rfl | ⟨rfl, rfl⟩ | ⟨rfl, rfl, hne⟩ | ⟨rfl, rfl, heq⟩
 ·have HR := Aside0.mk (show riR F t s true = (⟨[], []⟩, false) from by rw [HEND.out, if_pos rfl])
  have b0 := M20.out.box (.tail _ (.tail _ (.tail _ (.tail _ (.head _))))); have b1 := M20.out.free (.tail _ (.tail _ (.tail _ (.tail _ (.head _)))))
  have M8 := Aside0.mk (Mem.set (A := [_, _, _, _]) (Mem.set (A := [_, _, _, _]) M20.out 0 (.slice none 0 0) rfl) 1 (.slice none 0 0) rfl)
  clear M20
  go_wp2
  refine bodyPost_ret (results_ct rfl _ _ w.heap.size 37 #[.slice none 0 0, .slice none 0 0] (0, 0) _ rfl (M8.out.blk (.tail _ (.tail _ (.tail _ (.tail _ (.head _)))))) hu0 rfl (by kernel_rfl)) rfl ?_
  exact ⟨_, congrArg Ending.returned (by rw [HR.out]; rfl), by rw [HR.out]; exact kImageA_mkM _ _ _ ⟨[], []⟩ (Kd.S_nil _ _ _ _ _) (Kd.R_nil _ _ _ _ _), M8.out.below⟩
 ·have HR := Aside0.mk (show riR F t s true = (⟨[], []⟩, false) from by rw [HEND.out, if_neg (by decide), HRA.out, if_neg (by rintro ⟨h, _⟩; cases h)])
  have b0 := M20.out.box (.tail _ (.tail _ (.tail _ (.tail _ (.head _))))); have b1 := M20.out.free (.tail _ (.tail _ (.tail _ (.tail _ (.head _)))))
  have M8 := Aside0.mk (Mem.set (A := [_, _, _, _]) (Mem.set (A := [_, _, _, _]) M20.out 0 (.slice none 0 0) rfl) 1 (.slice none 0 0) rfl)
  clear M20
  go_wp2
  refine bodyPost_ret (results_ct rfl _ _ w.heap.size 37 #[.slice none 0 0, .slice none 0 0] (0, 0) _ rfl (M8.out.blk (.tail _ (.tail _ (.tail _ (.tail _ (.head _)))))) hu0 rfl (by kernel_rfl)) rfl ?_
  exact ⟨_, congrArg Ending.returned (by rw [HR.out]; rfl), by rw [HR.out]; exact kImageA_mkM _ _ _ ⟨[], []⟩ (Kd.S_nil _ _ _ _ _) (Kd.R_nil _ _ _ _ _), M8.out.below⟩
 ·have HR := Aside0.mk (show riR F t s true = (⟨[], []⟩, false) from by rw [HEND.out, if_neg (by decide), HRA.out, if_neg (by rintro ⟨_, h⟩; exact hne h)])
  have q1 : (t1.toList != t.toList) = true := by simpa using hne
  have q2 : (t1.toList == t.toList) = false := by simpa using hne
  have b0 := M20.out.box (.tail _ (.tail _ (.tail _ (.tail _ (.head _))))); have b1 := M20.out.free (.tail _ (.tail _ (.tail _ (.tail _ (.head _)))))
  have M8 := Aside0.mk (Mem.set (A := [_, _, _, _]) (Mem.set (A := [_, _, _, _]) M20.out 0 (.slice none 0 0) rfl) 1 (.slice none 0 0) rfl)
  clear M20
  go_wp2
  refine bodyPost_ret (results_ct rfl _ _ w.heap.size 37 #[.slice none 0 0, .slice none 0 0] (0, 0) _ rfl (M8.out.blk (.tail _ (.tail _ (.tail _ (.tail _ (.head _)))))) hu0 rfl (by kernel_rfl)) rfl ?_
  exact ⟨_, congrArg Ending.returned (by rw [HR.out]; rfl), by rw [HR.out]; exact kImageA_mkM _ _ _ ⟨[], []⟩ (Kd.S_nil _ _ _ _ _) (Kd.R_nil _ _ _ _ _), M8.out.below⟩
 ·have HR := Aside0.mk (show riR F t s true = (x, true) from by rw [HEND.out, if_neg (by decide), HRA.out, if_pos ⟨rfl, heq⟩])
  have q1 : (t1.toList != t.toList) = false := by simp [heq]
  have q2 : (t1.toList == t.toList) = true := by simp [heq]
  clear heq
  have z7 := M20.out.box (.tail _ (.tail _ (.tail _ (.head _)))); have b0 := M20.out.box (.tail _ (.tail _ (.tail _ (.tail _ (.head _))))); have b1 := M20.out.free (.tail _ (.tail _ (.tail _ (.tail _ (.head _)))))
  have M8 := Aside0.mk (Mem.set (A := [_, _, _, _]) (Mem.set (A := [_, _, _, _]) M20.out 0 (.slice X1 l1.length Y1) rfl) 1 (.slice X0 l0.length Y0) rfl)
  clear M20
  go_wp2
  refine bodyPost_ret (results_ct rfl _ _ w.heap.size 37 #[.slice X1 l1.length Y1, .slice X0 l0.length Y0] (0, 0) _ rfl (M8.out.blk (.tail _ (.tail _ (.tail _ (.tail _ (.head _)))))) hu0 rfl (by kernel_rfl)) rfl ?_
  exact ⟨_, congrArg Ending.returned (by rw [HR.out]; rfl), by rw [HR.out, HXX.out]; exact kImageA_mkM _ _ _ ⟨l1, l0⟩ (Kd.S_mono (Kd.S_lower (M8.out.rowS (.tail _ (.head _))) (M8.out.fits _ (.tail _ (.head _))).1) (fun _ _ => trivial)) (M8.out.rowT (.tail _ (.tail _ (.head _)))), M8.out.below⟩
end Go.Proofs.Ytcbaokflimdjnaa.Law
end
