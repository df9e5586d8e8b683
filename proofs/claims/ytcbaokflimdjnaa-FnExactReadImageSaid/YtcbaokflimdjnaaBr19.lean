/- Part 19 of the proof: general lemmas, contracts of functions, walks. No condition of its own. -/
import Derived.Test.YtcbaokflimdjnaaProg
import Derived.Deep.RegionHeld3
import Derived.WalkKit
import Derived.KernelRfl
import Derived.Laws.Closers25b
import Derived.Test.YtcbaokflimdjnaaBr18
import Derived.Test.YtcbaokflimdjnaaBr9
import Derived.Test.YtcbaokflimdjnaaBr14
import Derived.Test.YtcbaokflimdjnaaBr15
import Derived.Test.YtcbaokflimdjnaaBr10
import Derived.Test.YtcbaokflimdjnaaBr2
set_option linter.unusedVariables false
set_option linter.unusedSimpArgs false
set_option autoImplicit false
section
namespace Go.Proofs.Ytcbaokflimdjnaa
open Go.RowKit Go.Proofs.YtcbaokflimdjnaaW.PrintWords Go.Proofs.YtcbaokflimdjnaaW.PrintMore
structure Ins where
 op : Int
 a : Int
 b : Int
 deriving DecidableEq
def zIns : Ins := ⟨0, 0, 0⟩
def kIns : Kd Ins := Kd.iso (Kd.pair (Kd.int .i64) (Kd.pair (Kd.int .i64) (Kd.int .i64))) (fun x : Ins => (x.op, x.a, x.b))
theorem kIns_open {w : World} {x : Ins} {cs : List Value} (h : kIns.K w x cs) : cs = [.int .i64 x.op, .int .i64 x.a, .int .i64 x.b] := by
 obtain ⟨_, _, rfl, rfl, ⟨_, _, rfl, rfl, rfl⟩⟩ := h
 exact rfl
theorem kIns_openM {w : World} {base : Nat} {ok : Nat → Prop} {x : Ins} {cs : List Value} (h : kIns.M w base ok x cs) : cs = [.int .i64 x.op, .int .i64 x.a, .int .i64 x.b] := by
 obtain ⟨_, _, rfl, rfl, ⟨_, _, rfl, rfl, rfl⟩⟩ := h
 exact rfl
theorem kIns_mkM (w : World) (base : Nat) (ok : Nat → Prop) (x : Ins) : kIns.M w base ok x [.int .i64 x.op, .int .i64 x.a, .int .i64 x.b] := ⟨_, _, rfl, rfl, ⟨_, _, rfl, rfl, rfl⟩⟩
theorem Ins_at {w : World} {A : Option Addr} {l : List Ins} (h : kIns.C w A l.length l) (j : Nat) (hj : j < l.length) : ∃ a, A = some a ∧ kIns.K w (el zIns l j) [.int .i64 (el zIns l j).op, .int .i64 (el zIns l j).a, .int .i64 (el zIns l j).b] ∧ w.cell? (a.add (j * 3)) = some (.int .i64 (el zIns l j).op) ∧ w.cell? ⟨(a.add (j * 3)).block, (a.add (j * 3)).off + 1, none⟩ = some (.int .i64 (el zIns l j).a) ∧ w.cell? ⟨(a.add (j * 3)).block, (a.add (j * 3)).off + 2, none⟩ = some (.int .i64 (el zIns l j).b) := by
 obtain ⟨a, c, e, hK, hc0⟩ := kd_at zIns h j hj
 have hc : ∀ i u, c[i]? = some u → w.cell? (a.add (j * 3 + i)) = some u := hc0
 have e2 := kIns_open hK
 subst e2
 exact ⟨a, e, hK, hc 0 _ rfl, by rw [← add_field _ _ 1 (by omega)]; exact hc 1 _ rfl, by rw [← add_field _ _ 2 (by omega)]; exact hc 2 _ rfl⟩
structure Cap where
 reg : Bool
 index : Int
 deriving DecidableEq
def zCap : Cap := ⟨false, 0⟩
def kCap : Kd Cap := Kd.iso (Kd.pair Kd.bool (Kd.int .i64)) (fun x : Cap => (x.reg, x.index))
theorem kCap_open {w : World} {x : Cap} {cs : List Value} (h : kCap.K w x cs) : cs = [.bool x.reg, .int .i64 x.index] := by
 obtain ⟨_, _, rfl, rfl, rfl⟩ := h
 exact rfl
theorem kCap_openM {w : World} {base : Nat} {ok : Nat → Prop} {x : Cap} {cs : List Value} (h : kCap.M w base ok x cs) : cs = [.bool x.reg, .int .i64 x.index] := by
 obtain ⟨_, _, rfl, rfl, rfl⟩ := h
 exact rfl
theorem kCap_mkM (w : World) (base : Nat) (ok : Nat → Prop) (x : Cap) : kCap.M w base ok x [.bool x.reg, .int .i64 x.index] := ⟨_, _, rfl, rfl, rfl⟩
theorem Cap_at {w : World} {A : Option Addr} {l : List Cap} (h : kCap.C w A l.length l) (j : Nat) (hj : j < l.length) : ∃ a, A = some a ∧ kCap.K w (el zCap l j) [.bool (el zCap l j).reg, .int .i64 (el zCap l j).index] ∧ w.cell? (a.add (j * 2)) = some (.bool (el zCap l j).reg) ∧ w.cell? ⟨(a.add (j * 2)).block, (a.add (j * 2)).off + 1, none⟩ = some (.int .i64 (el zCap l j).index) := by
 obtain ⟨a, c, e, hK, hc0⟩ := kd_at zCap h j hj
 have hc : ∀ i u, c[i]? = some u → w.cell? (a.add (j * 2 + i)) = some u := hc0
 have e2 := kCap_open hK
 subst e2
 exact ⟨a, e, hK, hc 0 _ rfl, by rw [← add_field _ _ 1 (by omega)]; exact hc 1 _ rfl⟩
structure Handler where
 from_ : Int
 to_ : Int
 target : Int
 deriving DecidableEq
def zHandler : Handler := ⟨0, 0, 0⟩
def kHandler : Kd Handler := Kd.iso (Kd.pair (Kd.int .i64) (Kd.pair (Kd.int .i64) (Kd.int .i64))) (fun x : Handler => (x.from_, x.to_, x.target))
theorem kHandler_open {w : World} {x : Handler} {cs : List Value} (h : kHandler.K w x cs) : cs = [.int .i64 x.from_, .int .i64 x.to_, .int .i64 x.target] := by
 obtain ⟨_, _, rfl, rfl, ⟨_, _, rfl, rfl, rfl⟩⟩ := h
 exact rfl
theorem kHandler_openM {w : World} {base : Nat} {ok : Nat → Prop} {x : Handler} {cs : List Value} (h : kHandler.M w base ok x cs) : cs = [.int .i64 x.from_, .int .i64 x.to_, .int .i64 x.target] := by
 obtain ⟨_, _, rfl, rfl, ⟨_, _, rfl, rfl, rfl⟩⟩ := h
 exact rfl
theorem kHandler_mkM (w : World) (base : Nat) (ok : Nat → Prop) (x : Handler) : kHandler.M w base ok x [.int .i64 x.from_, .int .i64 x.to_, .int .i64 x.target] := ⟨_, _, rfl, rfl, ⟨_, _, rfl, rfl, rfl⟩⟩
theorem Handler_at {w : World} {A : Option Addr} {l : List Handler} (h : kHandler.C w A l.length l) (j : Nat) (hj : j < l.length) : ∃ a, A = some a ∧ kHandler.K w (el zHandler l j) [.int .i64 (el zHandler l j).from_, .int .i64 (el zHandler l j).to_, .int .i64 (el zHandler l j).target] ∧ w.cell? (a.add (j * 3)) = some (.int .i64 (el zHandler l j).from_) ∧ w.cell? ⟨(a.add (j * 3)).block, (a.add (j * 3)).off + 1, none⟩ = some (.int .i64 (el zHandler l j).to_) ∧ w.cell? ⟨(a.add (j * 3)).block, (a.add (j * 3)).off + 2, none⟩ = some (.int .i64 (el zHandler l j).target) := by
 obtain ⟨a, c, e, hK, hc0⟩ := kd_at zHandler h j hj
 have hc : ∀ i u, c[i]? = some u → w.cell? (a.add (j * 3 + i)) = some u := hc0
 have e2 := kHandler_open hK
 subst e2
 exact ⟨a, e, hK, hc 0 _ rfl, by rw [← add_field _ _ 1 (by omega)]; exact hc 1 _ rfl, by rw [← add_field _ _ 2 (by omega)]; exact hc 2 _ rfl⟩
structure Const where
 kind : Int
 num : Int
 text : ByteArray
 deriving DecidableEq
def zConst : Const := ⟨0, 0, (⟨#[]⟩ : ByteArray)⟩
def kConst : Kd Const := Kd.iso (Kd.pair (Kd.int .i64) (Kd.pair (Kd.int .u64) Kd.string)) (fun x : Const => (x.kind, x.num, x.text))
theorem kConst_open {w : World} {x : Const} {cs : List Value} (h : kConst.K w x cs) : cs = [.int .i64 x.kind, .int .u64 x.num, .string x.text] := by
 obtain ⟨_, _, rfl, rfl, ⟨_, _, rfl, rfl, rfl⟩⟩ := h
 exact rfl
theorem kConst_openM {w : World} {base : Nat} {ok : Nat → Prop} {x : Const} {cs : List Value} (h : kConst.M w base ok x cs) : cs = [.int .i64 x.kind, .int .u64 x.num, .string x.text] := by
 obtain ⟨_, _, rfl, rfl, ⟨_, _, rfl, rfl, rfl⟩⟩ := h
 exact rfl
theorem kConst_mkM (w : World) (base : Nat) (ok : Nat → Prop) (x : Const) : kConst.M w base ok x [.int .i64 x.kind, .int .u64 x.num, .string x.text] := ⟨_, _, rfl, rfl, ⟨_, _, rfl, rfl, rfl⟩⟩
theorem Const_at {w : World} {A : Option Addr} {l : List Const} (h : kConst.C w A l.length l) (j : Nat) (hj : j < l.length) : ∃ a, A = some a ∧ kConst.K w (el zConst l j) [.int .i64 (el zConst l j).kind, .int .u64 (el zConst l j).num, .string (el zConst l j).text] ∧ w.cell? (a.add (j * 3)) = some (.int .i64 (el zConst l j).kind) ∧ w.cell? ⟨(a.add (j * 3)).block, (a.add (j * 3)).off + 1, none⟩ = some (.int .u64 (el zConst l j).num) ∧ w.cell? ⟨(a.add (j * 3)).block, (a.add (j * 3)).off + 2, none⟩ = some (.string (el zConst l j).text) := by
 obtain ⟨a, c, e, hK, hc0⟩ := kd_at zConst h j hj
 have hc : ∀ i u, c[i]? = some u → w.cell? (a.add (j * 3 + i)) = some u := hc0
 have e2 := kConst_open hK
 subst e2
 exact ⟨a, e, hK, hc 0 _ rfl, by rw [← add_field _ _ 1 (by omega)]; exact hc 1 _ rfl, by rw [← add_field _ _ 2 (by omega)]; exact hc 2 _ rfl⟩
structure Func where
 params : Int
 regs : Int
 caps : List Cap
 code : List Ins
 handlers : List Handler
 deriving DecidableEq
def zFunc : Func := ⟨0, 0, [], [], []⟩
def kFuncI : Kd Func := Kd.iso (Kd.pair (Kd.int .i64) (Kd.pair (Kd.int .i64) (Kd.pair (Kd.slice 105 kCap) (Kd.pair (Kd.slice 76 kIns) (Kd.slice 107 kHandler))))) (fun x : Func => (x.params, x.regs, x.caps, x.code, x.handlers))
theorem kFuncI_open {w : World} {x : Func} {cs : List Value} (h : kFuncI.K w x cs) : ∃ A2 c2 A3 c3 A4 c4, cs = [.int .i64 x.params, .int .i64 x.regs, .slice A2 x.caps.length c2, .slice A3 x.code.length c3, .slice A4 x.handlers.length c4] ∧ x.caps.length ≤ c2 ∧ kCap.C w A2 x.caps.length x.caps ∧ x.code.length ≤ c3 ∧ kIns.C w A3 x.code.length x.code ∧ x.handlers.length ≤ c4 ∧ kHandler.C w A4 x.handlers.length x.handlers := by
 obtain ⟨_, _, rfl, rfl, ⟨_, _, rfl, rfl, ⟨_, _, rfl, ⟨A2, c2, rfl, l2, g2⟩, ⟨_, _, rfl, ⟨A3, c3, rfl, l3, g3⟩, ⟨A4, c4, rfl, l4, g4⟩⟩⟩⟩⟩ := h
 exact ⟨A2, c2, A3, c3, A4, c4, rfl, l2, g2, l3, g3, l4, g4⟩
theorem kFuncI_openM {w : World} {base : Nat} {ok : Nat → Prop} {x : Func} {cs : List Value} (h : kFuncI.M w base ok x cs) : ∃ v2 v3 v4, cs = [.int .i64 x.params, .int .i64 x.regs, v2, v3, v4] ∧ kCap.R 105 w base ok v2 x.caps ∧ kIns.R 76 w base ok v3 x.code ∧ kHandler.R 107 w base ok v4 x.handlers := by
 obtain ⟨_, _, rfl, rfl, ⟨_, _, rfl, rfl, ⟨_, _, rfl, ⟨v2, rfl, g2⟩, ⟨_, _, rfl, ⟨v3, rfl, g3⟩, ⟨v4, rfl, g4⟩⟩⟩⟩⟩ := h
 exact ⟨v2, v3, v4, rfl, g2, g3, g4⟩
theorem kFuncI_mkM (w : World) (base : Nat) (ok : Nat → Prop) (x : Func) {v2 : Value} (g2 : kCap.R 105 w base ok v2 x.caps) {v3 : Value} (g3 : kIns.R 76 w base ok v3 x.code) {v4 : Value} (g4 : kHandler.R 107 w base ok v4 x.handlers) : kFuncI.M w base ok x [.int .i64 x.params, .int .i64 x.regs, v2, v3, v4] := ⟨_, _, rfl, rfl, ⟨_, _, rfl, rfl, ⟨_, _, rfl, ⟨_, rfl, g2⟩, ⟨_, _, rfl, ⟨_, rfl, g3⟩, ⟨_, rfl, g4⟩⟩⟩⟩⟩
theorem FuncI_at {w : World} {A : Option Addr} {l : List Func} (h : kFuncI.C w A l.length l) (j : Nat) (hj : j < l.length) : ∃ a A2 c2 A3 c3 A4 c4, A = some a ∧ kFuncI.K w (el zFunc l j) [.int .i64 (el zFunc l j).params, .int .i64 (el zFunc l j).regs, .slice A2 (el zFunc l j).caps.length c2, .slice A3 (el zFunc l j).code.length c3, .slice A4 (el zFunc l j).handlers.length c4] ∧ w.cell? (a.add (j * 5)) = some (.int .i64 (el zFunc l j).params) ∧ w.cell? ⟨(a.add (j * 5)).block, (a.add (j * 5)).off + 1, none⟩ = some (.int .i64 (el zFunc l j).regs) ∧ w.cell? ⟨(a.add (j * 5)).block, (a.add (j * 5)).off + 2, none⟩ = some (.slice A2 (el zFunc l j).caps.length c2) ∧ w.cell? ⟨(a.add (j * 5)).block, (a.add (j * 5)).off + 3, none⟩ = some (.slice A3 (el zFunc l j).code.length c3) ∧ w.cell? ⟨(a.add (j * 5)).block, (a.add (j * 5)).off + 4, none⟩ = some (.slice A4 (el zFunc l j).handlers.length c4) := by
 obtain ⟨a, c, e, hK, hc0⟩ := kd_at zFunc h j hj
 have hc : ∀ i u, c[i]? = some u → w.cell? (a.add (j * 5 + i)) = some u := hc0
 obtain ⟨A2, c2, A3, c3, A4, c4, rfl, l2, g2, l3, g3, l4, g4⟩ := kFuncI_open hK
 exact ⟨a, A2, c2, A3, c3, A4, c4, e, hK, hc 0 _ rfl, by rw [← add_field _ _ 1 (by omega)]; exact hc 1 _ rfl, by rw [← add_field _ _ 2 (by omega)]; exact hc 2 _ rfl, by rw [← add_field _ _ 3 (by omega)]; exact hc 3 _ rfl, by rw [← add_field _ _ 4 (by omega)]; exact hc 4 _ rfl⟩
structure Image where
 funcs : List Func
 consts : List Const
 deriving DecidableEq
def kImageI : Kd Image := Kd.iso (Kd.pair (Kd.slice 73 kFuncI) (Kd.slice 100 kConst)) (fun x : Image => (x.funcs, x.consts))
theorem kImageI_open {w : World} {x : Image} {cs : List Value} (h : kImageI.K w x cs) : ∃ A0 c0 A1 c1, cs = [.slice A0 x.funcs.length c0, .slice A1 x.consts.length c1] ∧ x.funcs.length ≤ c0 ∧ kFuncI.C w A0 x.funcs.length x.funcs ∧ x.consts.length ≤ c1 ∧ kConst.C w A1 x.consts.length x.consts := by
 obtain ⟨_, _, rfl, ⟨A0, c0, rfl, l0, g0⟩, ⟨A1, c1, rfl, l1, g1⟩⟩ := h
 exact ⟨A0, c0, A1, c1, rfl, l0, g0, l1, g1⟩
theorem kImageI_openM {w : World} {base : Nat} {ok : Nat → Prop} {x : Image} {cs : List Value} (h : kImageI.M w base ok x cs) : ∃ v0 v1, cs = [v0, v1] ∧ kFuncI.R 73 w base ok v0 x.funcs ∧ kConst.R 100 w base ok v1 x.consts := by
 obtain ⟨_, _, rfl, ⟨v0, rfl, g0⟩, ⟨v1, rfl, g1⟩⟩ := h
 exact ⟨v0, v1, rfl, g0, g1⟩
theorem kImageI_mkM (w : World) (base : Nat) (ok : Nat → Prop) (x : Image) {v0 : Value} (g0 : kFuncI.R 73 w base ok v0 x.funcs) {v1 : Value} (g1 : kConst.R 100 w base ok v1 x.consts) : kImageI.M w base ok x [v0, v1] := ⟨_, _, rfl, ⟨_, rfl, g0⟩, ⟨_, rfl, g1⟩⟩
end Go.Proofs.Ytcbaokflimdjnaa
end
section
namespace Go.Proofs.Ytcbaokflimdjnaa
open Go.RowKit Go.Proofs.YtcbaokflimdjnaaW.PrintWords Go.Proofs.YtcbaokflimdjnaaW.PrintMore Go.Proofs.Ytcbaokflimdjnaa.QFnExactVerify
theorem C_map {α β : Type} {d : Kd α} {e : Kd β} (f : α → β) (hsz : d.sz = e.sz) (h : ∀ w x cs, d.K w x cs → e.K w (f x) cs) {w : World} {A : Option Addr} {l : List α} (hc : d.C w A l.length l) : e.C w A (l.map f).length (l.map f) := by
 refine ⟨rfl, by rw [List.length_map]; exact hc.2.1, fun hn => ?_⟩
 obtain ⟨ad, e1, hh⟩ := hc.2.2 (by rw [List.length_map] at hn; exact hn)
 refine ⟨ad, e1, fun j p hp => ?_⟩
 rw [List.getElem?_map] at hp
 cases hq : l[j]? with
 | none => rw [hq] at hp; cases hp
 | some q =>
  rw [hq] at hp
  obtain rfl : f q = p := by simpa using hp
  obtain ⟨c, h1, h2, h3⟩ := hh j q hq
  exact ⟨c, by rw [h1, hsz], h _ _ _ h2, by rw [← hsz]; exact h3⟩
def sCap (x : Cap) : S105 := ⟨x.reg, x.index⟩
def sIns (x : Ins) : S76 := ⟨x.op, x.a, x.b⟩
def sHandler (x : Handler) : S107 := ⟨x.from_, x.to_, x.target⟩
def sConst (x : Const) : S100 := ⟨x.kind, x.num, x.text⟩
def sFunc (x : Func) : S73 := ⟨x.params, x.regs, x.caps.map sCap, x.code.map sIns, x.handlers.map sHandler⟩
theorem sCap_K (w : World) (x : Cap) (cs : List Value) (h : kCap.K w x cs) : k105.K w (sCap x) cs := by
 have e := kCap_open h
 subst e
 exact k105_mk w (sCap x)
theorem sIns_K (w : World) (x : Ins) (cs : List Value) (h : kIns.K w x cs) : k76.K w (sIns x) cs := by
 have e := kIns_open h
 subst e
 exact k76_mk w (sIns x)
theorem sHandler_K (w : World) (x : Handler) (cs : List Value) (h : kHandler.K w x cs) : k107.K w (sHandler x) cs := by
 have e := kHandler_open h
 subst e
 exact k107_mk w (sHandler x)
theorem sConst_K (w : World) (x : Const) (cs : List Value) (h : kConst.K w x cs) : k100.K w (sConst x) cs := by
 have e := kConst_open h
 subst e
 exact k100_mk w (sConst x)
theorem sFunc_K (w : World) (x : Func) (cs : List Value) (h : kFuncI.K w x cs) : k73.K w (sFunc x) cs := by
 obtain ⟨A2, c2, A3, c3, A4, c4, rfl, l2, g2, l3, g3, l4, g4⟩ := kFuncI_open h
 have e2 : (sFunc x).f2.length = x.caps.length := List.length_map _
 have e3 : (sFunc x).f3.length = x.code.length := List.length_map _
 have e4 : (sFunc x).f4.length = x.handlers.length := List.length_map _
 have k := k73_mk w (sFunc x) (A2 := A2) (c2 := c2) (by rw [e2]; exact l2) (C_map sCap rfl sCap_K g2) (A3 := A3) (c3 := c3) (by rw [e3]; exact l3) (C_map sIns rfl sIns_K g3) (A4 := A4) (c4 := c4) (by rw [e4]; exact l4) (C_map sHandler rfl sHandler_K g4)
 rw [e2, e3, e4] at k
 exact k
def imgB (x : Image) : Bool := Img.imageB (x.funcs.map sFunc) (x.consts.map sConst)
theorem num_map {x : Image} (hn : ∀ y ∈ x.consts, 0 ≤ y.num ∧ y.num < 18446744073709551616) : ∀ y ∈ x.consts.map sConst, 0 ≤ y.f1 ∧ y.f1 < 18446744073709551616 := by
 intro y hy
 obtain ⟨z, hz, rfl⟩ := List.mem_map.1 hy
 exact hn z hz
theorem cImageOkS (x : Image) (A0 : Option Addr) (c0 : Nat) (A1 : Option Addr) (c1 : Nat) (w : World) (l0 : x.funcs.length ≤ c0) (g0 : kFuncI.C w A0 x.funcs.length x.funcs) (l1 : x.consts.length ≤ c1) (g1 : kConst.C w A1 x.consts.length x.consts) (hn : ∀ y ∈ x.consts, 0 ≤ y.num ∧ y.num < 18446744073709551616) :
  Calls Try.prog 52 #[.agg #[.slice A0 x.funcs.length c0, .slice A1 x.consts.length c1]] w fun e w' => e = .returned (.bool (imgB x)) ∧ Below w.heap.size w w' := by
 have C := spec_ImageOk.calls 700 A0 c0 (x.funcs.map sFunc) A1 c1 (x.consts.map sConst) (imgB x) w (C_map sFunc rfl sFunc_K g0) (by rw [List.length_map]; exact l0) (C_map sConst rfl sConst_K g1) (by rw [List.length_map]; exact l1) (Img.spec_image _ _ (num_map hn) (Nat.le_refl _))
 rw [List.length_map, List.length_map] at C
 exact C
theorem cImageOkI (x : Image) (A0 : Option Addr) (c0 : Nat) (A1 : Option Addr) (c1 : Nat) (w : World) (l0 : x.funcs.length ≤ c0) (g0 : kFuncI.C w A0 x.funcs.length x.funcs) (l1 : x.consts.length ≤ c1) (g1 : kConst.C w A1 x.consts.length x.consts) (hn : ∀ y ∈ x.consts, 0 ≤ y.num ∧ y.num < 18446744073709551616) :
  Calls Try.prog 59 #[.agg #[.slice A0 x.funcs.length c0, .slice A1 x.consts.length c1]] w fun e w' => e = .returned (.bool (imgB x)) ∧ Below w.heap.size w w' := by
 have C := impl_ImageOk.calls 700 A0 c0 (x.funcs.map sFunc) A1 c1 (x.consts.map sConst) (imgB x) w (C_map sFunc rfl sFunc_K g0) (by rw [List.length_map]; exact l0) (C_map sConst rfl sConst_K g1) (by rw [List.length_map]; exact l1) (Img.impl_image _ _ (num_map hn) (Nat.le_refl _))
 rw [List.length_map, List.length_map] at C
 exact C
theorem img_len {x : Image} (h : imgB x = true) : 1 ≤ x.funcs.length ∧ x.funcs.length ≤ 16 ∧ x.consts.length ≤ 40 := by
 unfold imgB Img.imageB Img.inB at h
 simp only [List.length_map, Bool.and_eq_true, decide_eq_true_eq] at h
 omega
theorem img_func {x : Image} (h : imgB x = true) {f : Func} (hf : f ∈ x.funcs) : Img.fB (sFunc f) = true := by
 unfold imgB Img.imageB at h
 simp only [Bool.and_eq_true, List.all_eq_true] at h
 exact h.2.2.2.1 _ (List.mem_map_of_mem hf)
end Go.Proofs.Ytcbaokflimdjnaa
end
section
namespace Go.Proofs.Ytcbaokflimdjnaa.Law
open Go.RowKit Go.Proofs.YtcbaokflimdjnaaW.PrintWords Go.Proofs.YtcbaokflimdjnaaW.PrintMore
theorem Mem.grow {α : Type} {d : Kd α} {e : Nat} {w W w1 : World} {H : List Hold} {lo hi : Nat} {l l1 : List α} {v v1 : Value} (h : Mem w W (Hold.val (Kd.slice e d) lo hi l [v] :: H)) (hH : ∀ x ∈ H, x.hi ≤ lo) (hb : Below lo W w1) (hr : d.R e w1 lo (fun k => lo ≤ k) v1 l1) : Mem w w1 (Hold.val (Kd.slice e d) lo w1.heap.size l1 [v1] :: H) := by
 have hf := (h.fits _ (.head _))
 have hlo : w.heap.size ≤ lo := hf.1
 refine ⟨h.below.trans ⟨hb.os, hb.tape, hb.output, hb.size, fun i hi => hb.block i (Nat.lt_of_lt_of_le hi hlo)⟩, fun x hx => ?_, fun x hx => ?_, ?_⟩
 ·rcases List.mem_cons.1 hx with rfl | hx
  ·exact ⟨v1, rfl, Kd.R_mono (Kd.R_bound hr) (fun k hk => ⟨hk.1, hk.2.2.1⟩)⟩
  ·exact x.mv (fun k _ h2 _ => hb.block k (Nat.lt_of_lt_of_le h2 (hH x hx))) (h.says x (.tail _ hx))
 ·rcases List.mem_cons.1 hx with rfl | hx
  ·exact ⟨hlo, Nat.le_refl _⟩
  ·have := h.fits x (.tail _ hx)
   exact ⟨this.1, Nat.le_trans this.2 hb.size⟩
 ·exact List.pairwise_cons.2 ⟨fun x hx => .inl (hH x hx), (List.pairwise_cons.1 h.apart).2⟩
end Go.Proofs.Ytcbaokflimdjnaa.Law
end
section
namespace Go.Proofs.Ytcbaokflimdjnaa.Law
open Go.RowKit Go.Proofs.YtcbaokflimdjnaaW.PrintWords Go.Proofs.YtcbaokflimdjnaaW.PrintMore Go.Proofs.Ytcbaokflimdjnaa.Num Go.Proofs.Ytcbaokflimdjnaa
def numsL (ns : List Int) : List Int := ns.flatMap fun n => bytesOf (varB n)
theorem numsL_len : ∀ ns : List Int, (numsL ns).length ≤ 5 * ns.length
 | [] => Nat.le_refl _
 | n :: ns => by
  have h1 := numsL_len ns
  have h2 := varB_size n
  rw [show numsL (n :: ns) = bytesOf (varB n) ++ numsL ns from rfl, List.length_append, bytesOf_length, List.length_cons]
  omega
theorem numsL_snoc (ns : List Int) (n : Int) : numsL (ns ++ [n]) = numsL ns ++ bytesOf (varB n) := by
 unfold numsL
 rw [List.flatMap_append, List.flatMap_cons, List.flatMap_nil, List.append_nil]
theorem numsL_take (ns : List Int) {k : Nat} (h : k < ns.length) : numsL (ns.take (k + 1)) = numsL (ns.take k) ++ bytesOf (varB ns[k]) := by
 rw [List.take_add_one, List.getElem?_eq_getElem h, ← numsL_snoc]
 rfl
def NumAt (w0 w : World) (H : List Hold) (gw ga : Nat) (ns l2 : List Int) : Prop := ∃ (g c : Nat), Mem w0 w (Hold.box gw #[.slice (some ⟨g, 0, none⟩) (l2).length c] 160 :: Hold.bts g c (l2) :: Hold.box ga (nums .i64 ns).toArray 3 :: H)
set_option maxHeartbeats 8000000 in
set_option maxRecDepth 100000 in
theorem cNum (ns : List Int) (hns : ∀ n ∈ ns, 0 ≤ n ∧ n ≤ 1000000000) (hln : ns.length ≤ 8) (w0 W : World) (H : List Hold) (gw g c ga : Nat) (l : List Int) (hl : l.length ≤ 1000000) (M : Mem w0 W (Hold.box gw #[.slice (some ⟨g, 0, none⟩) (l).length c] 160 :: Hold.bts g c (l) :: Hold.box ga (nums .i64 ns).toArray 3 :: H)) (cA : Nat) :
  Calls Try.prog 120 #[.pointer (some ⟨gw, 0, none⟩), .slice (some ⟨ga, 0, none⟩) ns.length cA] W fun e w' => e = .returned (.tuple #[]) ∧ NumAt w0 w' H gw ga ns (l ++ numsL ns) := by
 have hu := Try.underlying160; have hu1 := Try.underlying26; have hu2 := Try.underlying3
 have M0 := Aside0.mk M; clear M
 have HNS := Aside0.mk hns; clear hns
 go_enter Try.func120, Try.ntmps120
 go_upto_region 1 with fail
 go_loopw [10] (fun v wx => ∃ (k g c : Nat) (lk : List Int), v = .int .i64 k ∧ k ≤ ns.length ∧ Aside0 (lk = l ++ numsL (ns.take k)) ∧ Aside0 (Mem w0 wx (Hold.box gw #[.slice (some ⟨g, 0, none⟩) (lk).length c] 160 :: Hold.bts g c (lk) :: Hold.box ga (nums .i64 ns).toArray 3 :: H))) (fun v _ => ns.length - (intOf v).toNat)
 case atStart =>
  exact ⟨0, g, c, l, rfl, by omega, ⟨by rw [List.take_zero, show numsL [] = [] from rfl, List.append_nil]⟩, M0⟩
 case round =>
 clear M0
 obtain ⟨k, g, c, lk, rfl, hk, HLK, M1⟩ := hrel
 have hb1 := numsL_len (ns.take k)
 have hb2 : lk.length ≤ 2000000 := by
  rw [HLK.out, List.length_append]
  have := List.length_take_le k ns
  omega
 clear hb1
 by_cases hlt : k < ns.length
 ·have hle : (k : Int) < (ns.length : Int) := by omega
  have hk0 : (0 : Int) ≤ (k : Int) := by omega
  have zk : wr.cell? ⟨ga, k, none⟩ = some (.int .i64 ns[k]) := by
   rw [M1.out.box (.tail _ (.tail _ (.head _))) k, nums, List.getElem?_toArray, List.getElem?_map, List.getElem?_eq_getElem hlt]
   rfl
  have hT := Aside0.mk (numsL_take ns hlt)
  obtain ⟨n, hn⟩ : ∃ n, n = ns[k] := ⟨_, rfl⟩
  have hn1 := HNS.out ns[k] (List.getElem_mem hlt)
  rw [← hn] at zk hn1
  rw [← hn] at hT
  clear hn
  go_upto_region 3 with fail
  go_wp2_with fail
  refine (cVarI n _ hn1.1 hn1.2).mono ?_
  rintro e w2 ⟨rfl, hb⟩
  have M2 := Aside0.mk (M1.out.step hb); clear hb M1 zk
  obtain ⟨lk2, hlk2⟩ : ∃ lk2, lk2 = lk ++ bytesOf (varB n) := ⟨_, rfl⟩
  have HL2 := Aside0.mk hlk2; clear hlk2
  have hT2 := Aside0.mk (show lk2 = l ++ numsL (ns.take (k + 1)) by rw [hT.out, HL2.out, HLK.out, List.append_assoc])
  clear hT
  have z0 := M2.out.box (.head _); have f0 := M2.out.free (.head _)
  go_upto_region 4 with fail
  go_wp2_with (((with_reducible refine gate_builtin (b := .append) (xs := #[.tmp 23, .tmp 24]) rfl ?_); at_builtin; refine Aside0.out ?_))
  refine ⟨?_⟩
  have hvs := varB_size n
  refine bts_append (A := [_]) M2.out rfl (.tmp 23) (.tmp 24) 96 9 5 rfl Try.underlying96 (by kernel_rfl) (.string (varB n)) ?aV ?aX (varB n).size _ (Src.text Try.underlying9 _) (by rw [bytesOf_length]; omega) ?_
  (case aV => first | rfl | (go_simp; done) | (go_simp; rfl))
  (case aX => first | rfl | (go_simp; done) | (go_simp; rfl))
  intro g2 c2 W2 M3
  rw [← HL2.out] at M3 ⊢
  have M3 := Aside0.mk M3
  clear z0 f0 M2
  have z0 := M3.out.box (.head _); have f0 := M3.out.free (.head _)
  have M4 := Aside0.mk (Mem.set (A := []) M3.out 0 (.slice (some ⟨g2, 0, none⟩) lk2.length c2) rfl)
  clear M3 hvs
  go_wp2
  go_roundw
  case measure => simp [intOf]; omega
  case rel => exact ⟨k + 1, g2, c2, lk2, by go_num, by omega, hT2, M4⟩
 ·have hle : ¬ (k : Int) < (ns.length : Int) := by omega
  obtain rfl : k = ns.length := by omega
  go_wp2
  first | go_end0 | ((try simp only [Exit.inBlock, Exit.then]); refine bodyPost_ret (results_none rfl _ _ _) rfl ?_)
  have h1 := HLK.out
  rw [List.take_length] at h1
  subst h1
  exact ⟨rfl, g, c, M1.out⟩
end Go.Proofs.Ytcbaokflimdjnaa.Law
end
section
namespace Go.Proofs.Ytcbaokflimdjnaa.Law
open Go.RowKit Go.Proofs.YtcbaokflimdjnaaW.PrintWords Go.Proofs.YtcbaokflimdjnaaW.PrintMore Go.Proofs.Ytcbaokflimdjnaa.Num Go.Proofs.Ytcbaokflimdjnaa
def flatTo {α : Type} (h : α → List Int) (l : List α) (k : Nat) : List Int := (l.take k).flatMap h
theorem flatTo_zero {α : Type} (h : α → List Int) (l : List α) : flatTo h l 0 = [] := rfl
theorem flatTo_succ {α : Type} (z : α) (h : α → List Int) (l : List α) {k : Nat} (hk : k < l.length) : flatTo h l (k + 1) = flatTo h l k ++ h (el z l k) := by
 unfold flatTo
 rw [List.take_add_one, List.getElem?_eq_getElem hk, List.flatMap_append, el_lt z hk]
 simp
theorem flatTo_len {α : Type} (h : α → List Int) (l : List α) (b : Nat) (hb : ∀ y ∈ l, (h y).length ≤ b) (k : Nat) : (flatTo h l k).length ≤ b * k := by
 induction k with
 | zero => simp [flatTo]
 | succ k ih =>
  by_cases hk : k < l.length
  ·unfold flatTo at ih ⊢
   rw [List.take_add_one, List.getElem?_eq_getElem hk, List.flatMap_append, List.length_append]
   have := hb l[k] (List.getElem_mem hk)
   simp only [Option.toList_some, List.flatMap_cons, List.flatMap_nil, List.append_nil]
   rw [Nat.mul_succ]
   omega
  ·unfold flatTo at ih ⊢
   rw [List.take_of_length_le (by omega)]
   rw [List.take_of_length_le (by omega)] at ih
   rw [Nat.mul_succ]
   omega
def constL (c : Const) : List Int := (c.kind % 256) :: (if c.kind = 1 then eightTo c.num 8 else if c.kind = 2 then bytesOf (varB c.text.size) ++ bytesOf c.text else [])
def capL (c : Cap) : List Int := (if c.reg = true then 1 else 0) :: numsL [c.index]
def insL (i : Ins) : List Int := (i.op % 256) :: numsL [i.a, i.b]
def handL (h : Handler) : List Int := numsL [h.from_, h.to_, h.target]
def funcL1 (f : Func) : List Int := numsL [f.params, f.regs, (f.caps.length : Int)]
def funcL2 (f : Func) : List Int := funcL1 f ++ flatTo capL f.caps f.caps.length ++ numsL [(f.code.length : Int)]
def funcL3 (f : Func) : List Int := funcL2 f ++ flatTo insL f.code f.code.length ++ numsL [(f.handlers.length : Int)]
def funcL (f : Func) : List Int := funcL3 f ++ flatTo handL f.handlers f.handlers.length
def imgL1 (x : Image) : List Int := [83, 67, 49] ++ numsL [(x.consts.length : Int)]
def imgL2 (x : Image) : List Int := imgL1 x ++ flatTo constL x.consts x.consts.length ++ numsL [(x.funcs.length : Int)]
def imgL (x : Image) : List Int := imgL2 x ++ flatTo funcL x.funcs x.funcs.length
structure FOk (f : Func) : Prop where
 params : 0 ≤ f.params ∧ f.params ≤ 4
 regs : 0 ≤ f.regs ∧ f.regs ≤ 40
 caps : f.caps.length ≤ 20
 code : f.code.length ≤ 300
 hands : f.handlers.length ≤ 40
 cap : ∀ y ∈ f.caps, 0 ≤ y.index ∧ y.index ≤ 40
 ins : ∀ y ∈ f.code, (0 ≤ y.a ∧ y.a ≤ 300) ∧ (0 ≤ y.b ∧ y.b ≤ 300)
 hand : ∀ y ∈ f.handlers, (0 ≤ y.from_ ∧ y.from_ ≤ 300) ∧ (0 ≤ y.to_ ∧ y.to_ ≤ 300) ∧ (0 ≤ y.target ∧ y.target ≤ 300)
theorem FOk.of {f : Func} (h : Img.fB (sFunc f) = true) : FOk f := by
 unfold Img.fB Img.funcB Img.inB at h
 simp only [Bool.and_eq_true, decide_eq_true_eq, List.all_eq_true] at h
 have h2 : (sFunc f).f2.length = f.caps.length := List.length_map _
 have h3 : (sFunc f).f3.length = f.code.length := List.length_map _
 have h4 : (sFunc f).f4.length = f.handlers.length := List.length_map _
 have h0 : (sFunc f).f0 = f.params := rfl
 have h1 : (sFunc f).f1 = f.regs := rfl
 rw [h2, h3, h4, h0, h1] at h
 refine ⟨by omega, by omega, by omega, by omega, by omega, fun y hy => ?_, fun y hy => ?_, fun y hy => ?_⟩
 ·have q := h.2.2.2.2.2.1 (sCap y) (List.mem_map_of_mem hy)
  unfold Img.capB Img.inB at q
  simp only [Bool.and_eq_true, decide_eq_true_eq] at q
  exact q
 ·have q := h.2.2.2.2.2.2.1 (sIns y) (List.mem_map_of_mem hy)
  unfold Img.insB Img.inB at q
  simp only [Bool.and_eq_true, decide_eq_true_eq] at q
  exact ⟨q.2.1, q.2.2⟩
 ·have q := h.2.2.2.2.2.2.2 (sHandler y) (List.mem_map_of_mem hy)
  unfold Img.hdB Img.inB at q
  simp only [Bool.and_eq_true, decide_eq_true_eq] at q
  exact ⟨q.1, q.2.1, q.2.2⟩
theorem img_const {x : Image} (h : imgB x = true) {c : Const} (hc : c ∈ x.consts) : c.text.size ≤ 40 := by
 unfold imgB Img.imageB at h
 simp only [Bool.and_eq_true, List.all_eq_true] at h
 have q := h.2.2.1 (sConst c) (List.mem_map_of_mem hc)
 have h2 : (sConst c).f2 = c.text := rfl
 have nil : ∀ t : ByteArray, (t.toList == ([] : List UInt8)) = true → t.size ≤ 40 := by
  intro t ht
  have h1 : t.toList = [] := by rw [Img.beq_nil] at ht; exact of_decide_eq_true ht
  have h3 : t.data.toList = [] := by rw [← ByteArray.toList_eq]; exact h1
  have h4 : t.size = t.data.toList.length := by rw [Array.length_toList]; rfl
  rw [h4, h3]
  simp
 unfold Img.constB at q
 rw [h2] at q
 split at q
 ·simp only [Bool.and_eq_true] at q
  exact nil _ q.1
 ·split at q
  ·simp only [Bool.and_eq_true, decide_eq_true_eq] at q
   omega
  ·split at q
   ·simp only [Bool.and_eq_true] at q
    exact nil _ q.2
   ·cases q
theorem constL_len {c : Const} (h : c.text.size ≤ 40) : (constL c).length ≤ 46 := by
 unfold constL
 have := varB_size c.text.size
 split
 ·rw [List.length_cons, eight_len]; omega
 ·split
  ·rw [List.length_cons, List.length_append, bytesOf_length, bytesOf_length]; omega
  ·simp
theorem capL_len (c : Cap) : (capL c).length ≤ 6 := by
 unfold capL
 have := numsL_len [c.index]
 rw [List.length_cons]
 simp at this
 omega
theorem insL_len (c : Ins) : (insL c).length ≤ 11 := by
 unfold insL
 have := numsL_len [c.a, c.b]
 rw [List.length_cons]
 simp at this
 omega
theorem handL_len (c : Handler) : (handL c).length ≤ 15 := by
 unfold handL
 have := numsL_len [c.from_, c.to_, c.target]
 simp at this
 omega
theorem funcL1_len (f : Func) : (funcL1 f).length ≤ 15 := by
 unfold funcL1
 have := numsL_len [f.params, f.regs, (f.caps.length : Int)]
 simp at this
 omega
theorem funcL2_len {f : Func} (h : FOk f) : (funcL2 f).length ≤ 140 := by
 unfold funcL2
 have h1 := funcL1_len f
 have h2 := flatTo_len capL f.caps 6 (fun y _ => capL_len y) f.caps.length
 have h3 := numsL_len [(f.code.length : Int)]
 have h4 := h.caps
 rw [List.length_append, List.length_append]
 simp at h3
 omega
theorem funcL3_len {f : Func} (h : FOk f) : (funcL3 f).length ≤ 3445 := by
 unfold funcL3
 have h1 := funcL2_len h
 have h2 := flatTo_len insL f.code 11 (fun y _ => insL_len y) f.code.length
 have h3 := numsL_len [(f.handlers.length : Int)]
 have h4 := h.code
 rw [List.length_append, List.length_append]
 simp at h3
 omega
theorem funcL_len {f : Func} (h : FOk f) : (funcL f).length ≤ 4045 := by
 unfold funcL
 have h1 := funcL3_len h
 have h2 := flatTo_len handL f.handlers 15 (fun y _ => handL_len y) f.handlers.length
 have h4 := h.hands
 rw [List.length_append]
 omega
theorem imgL1_len (x : Image) : (imgL1 x).length ≤ 8 := by
 unfold imgL1
 have := numsL_len [(x.consts.length : Int)]
 rw [List.length_append]
 simp at this ⊢
 omega
theorem constTo_len {x : Image} (h : imgB x = true) (k : Nat) : (flatTo constL x.consts k).length ≤ 46 * k := flatTo_len constL x.consts 46 (fun y hy => constL_len (img_const h hy)) k
theorem imgL2_len {x : Image} (h : imgB x = true) : (imgL2 x).length ≤ 1853 := by
 unfold imgL2
 have h1 := imgL1_len x
 have h2 := constTo_len h x.consts.length
 have h3 := numsL_len [(x.funcs.length : Int)]
 have h4 := (img_len h).2.2
 rw [List.length_append, List.length_append]
 simp at h3
 omega
theorem funcTo_len {x : Image} (h : imgB x = true) (k : Nat) : (flatTo funcL x.funcs k).length ≤ 4045 * k := flatTo_len funcL x.funcs 4045 (fun y hy => funcL_len (FOk.of (img_func h hy))) k
theorem func_at6 {w : World} {A : Option Addr} {l : List Func} (h : kFuncI.C w A l.length l) (j : Nat) (hj : j < l.length) : ∃ a A2 c2 A3 c3 A4 c4, A = some a ∧
  w.cell? (a.add (j * 5)) = some (.int .i64 (el zFunc l j).params) ∧ w.cell? ⟨(a.add (j * 5)).block, (a.add (j * 5)).off + 1, none⟩ = some (.int .i64 (el zFunc l j).regs) ∧ w.cell? ⟨(a.add (j * 5)).block, (a.add (j * 5)).off + 2, none⟩ = some (.slice A2 (el zFunc l j).caps.length c2) ∧ w.cell? ⟨(a.add (j * 5)).block, (a.add (j * 5)).off + 3, none⟩ = some (.slice A3 (el zFunc l j).code.length c3) ∧ w.cell? ⟨(a.add (j * 5)).block, (a.add (j * 5)).off + 4, none⟩ = some (.slice A4 (el zFunc l j).handlers.length c4) ∧
  ((el zFunc l j).caps.length ≤ c2 ∧ kCap.C w A2 (el zFunc l j).caps.length (el zFunc l j).caps) ∧ ((el zFunc l j).code.length ≤ c3 ∧ kIns.C w A3 (el zFunc l j).code.length (el zFunc l j).code) ∧ ((el zFunc l j).handlers.length ≤ c4 ∧ kHandler.C w A4 (el zFunc l j).handlers.length (el zFunc l j).handlers) := by
 obtain ⟨a, A2, c2, A3, c3, A4, c4, e, hK, x0, x1, x2, x3, x4⟩ := FuncI_at h j hj
 obtain ⟨B2, d2, B3, d3, B4, d4, he, l2, g2, l3, g3, l4, g4⟩ := kFuncI_open hK
 cases he
 exact ⟨a, A2, c2, A3, c3, A4, c4, e, x0, x1, x2, x3, x4, ⟨l2, g2⟩, ⟨l3, g3⟩, ⟨l4, g4⟩⟩
theorem Mem.rot {w W : World} {a b c : Hold} {H : List Hold} (h : Mem w W (a :: b :: c :: H)) : Mem w W (b :: c :: a :: H) := by
 have p : (b :: c :: a :: H).Perm (a :: b :: c :: H) := by
  refine List.Perm.symm ?_
  exact (List.Perm.swap b a (c :: H)).trans ((List.Perm.swap c a H).cons b)
 refine ⟨h.below, fun x hx => h.says x (p.mem_iff.1 hx), fun x hx => h.fits x (p.mem_iff.1 hx), ?_⟩
 refine (p.symm.pairwise_iff (fun {x y} hxy => ?_)).1 h.apart
 exact hxy.symm
def NumC (w0 w : World) (H : List Hold) (gw : Nat) (l2 : List Int) : Prop := ∃ (g c : Nat), Mem w0 w (Hold.box gw #[.slice (some ⟨g, 0, none⟩) (l2).length c] 160 :: Hold.bts g c (l2) :: H)
theorem cNumC (ns : List Int) (hns : ∀ n ∈ ns, 0 ≤ n ∧ n ≤ 1000000000) (hln : ns.length ≤ 8) (w0 W : World) (H : List Hold) (gw g c ga : Nat) (l l2 : List Int) (hl : l.length ≤ 1000000) (h2 : l2 = l ++ numsL ns)
  (M : Mem w0 W (Hold.box ga (nums .i64 ns).toArray 3 :: Hold.box gw #[.slice (some ⟨g, 0, none⟩) l.length c] 160 :: Hold.bts g c l :: H)) (n cA : Nat) (hn : n = ns.length) :
  Calls Try.prog 120 #[.pointer (some ⟨gw, 0, none⟩), .slice (some ⟨ga, 0, none⟩) n cA] W fun e w' => e = .returned (.tuple #[]) ∧ NumC w0 w' H gw l2 := by
 subst hn
 subst h2
 refine (cNum ns hns hln w0 W H gw g c ga l hl M.rot cA).mono ?_
 rintro e w' ⟨he, g2, c2, h⟩
 exact ⟨he, g2, c2, Mem.mid (A := [_, _]) h⟩
end Go.Proofs.Ytcbaokflimdjnaa.Law
end
section
namespace Go.Proofs.Ytcbaokflimdjnaa.Law
open Go.RowKit Go.Proofs.YtcbaokflimdjnaaW.PrintWords Go.Proofs.YtcbaokflimdjnaaW.PrintMore Go.Proofs.Ytcbaokflimdjnaa.Num Go.Proofs.Ytcbaokflimdjnaa
def stV (s : ByteArray) (a : Nat) (bad : Bool) : Int × Nat × Bool :=
 if bad = true then (0, a, true) else match pvar s a with
  | some (n, b) => (n, b, false)
  | none => (0, a, true)
def pone (s : ByteArray) (a : Nat) : Option (Int × Nat) := if a < s.size then some (bt s (a : Int), a + 1) else none
def stO (s : ByteArray) (a : Nat) (bad : Bool) : Int × Nat × Bool :=
 if bad = true then (0, a, true) else match pone s a with
  | some (n, b) => (n, b, false)
  | none => (0, a, true)
theorem stV_in (s : ByteArray) {a : Nat} (ha : a ≤ s.size) (bad : Bool) : (0 ≤ (stV s a bad).1 ∧ (stV s a bad).1 ≤ 1000000000) ∧ (stV s a bad).2.1 ≤ s.size := by
 unfold stV
 split
 ·exact ⟨⟨Int.le_refl (0 : Int), (by decide : (0 : Int) ≤ 1000000000)⟩, ha⟩
 ·split
  ·rename_i n b h
   have := pvar_in h
   exact ⟨⟨this.1, this.2.1⟩, this.2.2.2⟩
  ·exact ⟨⟨Int.le_refl (0 : Int), (by decide : (0 : Int) ≤ 1000000000)⟩, ha⟩
theorem stO_in (s : ByteArray) {a : Nat} (ha : a ≤ s.size) (bad : Bool) : (0 ≤ (stO s a bad).1 ∧ (stO s a bad).1 < 256) ∧ (stO s a bad).2.1 ≤ s.size := by
 unfold stO pone
 have := bt_in s (a : Int)
 split
 ·exact ⟨⟨Int.le_refl (0 : Int), (by decide : (0 : Int) < 256)⟩, ha⟩
 ·split
  ·rename_i n b h
   split at h
   ·injection h with h
    injection h with h1 h2
    refine ⟨?_, ?_⟩
    ·show 0 ≤ n ∧ n < 256
     omega
    ·show b ≤ s.size
     omega
   ·cases h
  ·exact ⟨⟨Int.le_refl (0 : Int), (by decide : (0 : Int) < 256)⟩, ha⟩
def Rel {α : Type} (D : α → Prop) (p : Nat → Option (α × Nat)) (a : Nat) (bad : Bool) (v : α) (a' : Nat) (bad' : Bool) : Prop :=
 if bad = true then bad' = true else match p a with
  | some (v0, a0) => v = v0 ∧ a' = a0 ∧ bad' = false
  | none => bad' = true ∨ D v
def No {α : Type} : α → Prop := fun _ => False
theorem Rel.bad {α : Type} {D : α → Prop} {p : Nat → Option (α × Nat)} {a : Nat} {v : α} {a' : Nat} {bad' : Bool} (h : Rel D p a true v a' bad') : bad' = true := by
 unfold Rel at h
 rwa [if_pos rfl] at h
theorem rel_var (s : ByteArray) (a : Nat) (bad : Bool) : Rel No (pvar s) a bad (stV s a bad).1 (stV s a bad).2.1 (stV s a bad).2.2 := by
 unfold Rel stV
 cases bad
 ·rw [if_neg (by decide), if_neg (by decide)]
  cases pvar s a with
  | none => exact .inl rfl
  | some x => exact ⟨rfl, rfl, rfl⟩
 ·rw [if_pos rfl, if_pos rfl]
theorem rel_one (s : ByteArray) (a : Nat) (bad : Bool) : Rel No (pone s) a bad (stO s a bad).1 (stO s a bad).2.1 (stO s a bad).2.2 := by
 unfold Rel stO
 cases bad
 ·rw [if_neg (by decide), if_neg (by decide)]
  cases pone s a with
  | none => exact .inl rfl
  | some x => exact ⟨rfl, rfl, rfl⟩
 ·rw [if_pos rfl, if_pos rfl]
def pseq {α β : Type} (p : Nat → Option (α × Nat)) (q : α → Nat → Option (β × Nat)) (a : Nat) : Option (β × Nat) :=
 match p a with
 | some (x, b) => q x b
 | none => none
theorem Rel.seq {α β : Type} {D : α → Prop} {D2 : β → Prop} {p : Nat → Option (α × Nat)} {q : α → Nat → Option (β × Nat)} {a : Nat} {bad : Bool} {x : α} {a1 : Nat} {b1 : Bool} {y : β} {a2 : Nat} {b2 : Bool}
  (h1 : Rel D p a bad x a1 b1) (h2 : Rel D2 (q x) a1 b1 y a2 b2) (hD : D x → D2 y) : Rel D2 (pseq p q) a bad y a2 b2 := by
 cases bad with
 | true =>
  have e := h1.bad
  subst e
  unfold Rel
  rw [if_pos rfl]
  exact h2.bad
 | false =>
  unfold Rel at h1 ⊢
  rw [if_neg (by decide)] at h1 ⊢
  unfold pseq
  cases hp : p a with
  | none =>
   rw [hp] at h1
   rcases h1 with h1 | h1
   ·subst h1
    exact .inl h2.bad
   ·exact .inr (hD h1)
  | some xb =>
   obtain ⟨x0, b0⟩ := xb
   rw [hp] at h1
   obtain ⟨rfl, rfl, rfl⟩ := h1
   unfold Rel at h2
   rwa [if_neg (by decide)] at h2
def pret {α : Type} (x : α) (a : Nat) : Option (α × Nat) := some (x, a)
theorem rel_ret {α : Type} (D : α → Prop) (x : α) (a : Nat) (bad : Bool) : Rel D (pret x) a bad x a bad := by
 unfold Rel pret
 cases bad
 ·rw [if_neg (by decide)]
  exact ⟨rfl, rfl, rfl⟩
 ·rw [if_pos rfl]
def prep {α : Type} (p : Nat → Option (α × Nat)) : Nat → Nat → Option (List α × Nat)
 | 0, a => some ([], a)
 | k + 1, a => pseq (prep p k) (fun l => pseq p (fun x => pret (l ++ [x]))) a
theorem prep_none {α : Type} {p : Nat → Option (α × Nat)} {a k : Nat} (h : prep p k a = none) : ∀ n, k ≤ n → prep p n a = none := by
 intro n hn
 obtain ⟨d, rfl⟩ : ∃ d, n = k + d := ⟨n - k, by omega⟩
 induction d with
 | zero => exact h
 | succ d ih =>
  show pseq (prep p (k + d)) _ a = none
  unfold pseq
  rw [ih (by omega)]
def plist {α : Type} (p : Nat → Option (α × Nat)) (most : Int) (s : ByteArray) : Nat → Option (List α × Nat) := pseq (pvar s) (fun n => if n > most then (fun _ => none) else prep p n.toNat)
def num8 (s : ByteArray) (a : Nat) : Nat → Int
 | 0 => 0
 | k + 1 => num8 s a k * 256 + bt s ((a + k : Nat) : Int)
theorem num8_in (s : ByteArray) (a k : Nat) : 0 ≤ num8 s a k ∧ num8 s a k < 256 ^ k := by
 induction k with
 | zero => simp [num8]
 | succ k ih =>
  have := bt_in s ((a + k : Nat) : Int)
  rw [num8, Int.pow_succ]
  omega
def pc1 (s : ByteArray) (a : Nat) : Option (Const × Nat) := if a + 8 ≤ s.size then some (⟨1, num8 s a 8, ⟨#[]⟩⟩, a + 8) else none
def pc2 (s : ByteArray) (n : Int) (a : Nat) : Option (Const × Nat) := if n ≤ (s.size : Int) - (a : Int) then some (⟨2, 0, s.extract a (a + n.toNat)⟩, a + n.toNat) else none
def pconst (s : ByteArray) : Nat → Option (Const × Nat) := pseq (pone s) fun k => if k = 1 then pc1 s else if k = 2 then pseq (pvar s) (pc2 s) else pret ⟨k, 0, ⟨#[]⟩⟩
def pcap (s : ByteArray) : Nat → Option (Cap × Nat) := pseq (pone s) fun b => pseq (pvar s) fun n => pret ⟨decide (b = 1), n⟩
def pins (s : ByteArray) : Nat → Option (Ins × Nat) := pseq (pone s) fun o => pseq (pvar s) fun x => pseq (pvar s) fun y => pret ⟨o, x, y⟩
def phand (s : ByteArray) : Nat → Option (Handler × Nat) := pseq (pvar s) fun x => pseq (pvar s) fun y => pseq (pvar s) fun z => pret ⟨x, y, z⟩
def pfunc (s : ByteArray) : Nat → Option (Func × Nat) := pseq (pvar s) fun p => pseq (pvar s) fun r => pseq (plist (pcap s) 20 s) fun cs => pseq (plist (pins s) 300 s) fun is => pseq (plist (phand s) 40 s) fun hs => pret ⟨p, r, cs, is, hs⟩
def pimg (s : ByteArray) : Nat → Option (Image × Nat) := pseq (plist (pconst s) 40 s) fun cs => pseq (plist (pfunc s) 16 s) fun fs => pret ⟨fs, cs⟩
def RInv {α : Type} (D : α → Prop) (p : Nat → Option (α × Nat)) (a : Nat) (bad : Bool) (k : Nat) (l : List α) (a' : Nat) (bad' : Bool) : Prop :=
 l.length = k ∧ Rel (fun l => ∃ x ∈ l, D x) (prep p k) a bad l a' bad'
theorem RInv.start {α : Type} (D : α → Prop) (p : Nat → Option (α × Nat)) (a : Nat) (bad : Bool) : RInv D p a bad 0 [] a bad := ⟨rfl, rel_ret _ _ _ _⟩
theorem RInv.step {α : Type} {D : α → Prop} {p : Nat → Option (α × Nat)} {a : Nat} {bad : Bool} {k : Nat} {l : List α} {a1 : Nat} {b1 : Bool} {x : α} {a2 : Nat} {b2 : Bool}
  (h : RInv D p a bad k l a1 b1) (hx : Rel D p a1 b1 x a2 b2) : RInv D p a bad (k + 1) (l ++ [x]) a2 b2 := by
 refine ⟨by rw [List.length_append, h.1]; rfl, ?_⟩
 refine Rel.seq (D2 := fun m : List α => ∃ y ∈ m, D y) h.2 (Rel.seq (D2 := fun m : List α => ∃ y ∈ m, D y) hx (rel_ret _ _ _ _) (fun hd => ⟨x, List.mem_append_right _ List.mem_cons_self, hd⟩)) ?_
 rintro ⟨y, hy, hd⟩
 exact ⟨y, List.mem_append_left _ hy, hd⟩
theorem RInv.all {α : Type} {D : α → Prop} {p : Nat → Option (α × Nat)} {s : ByteArray} {most : Int} {a : Nat} {bad : Bool} {n : Int} {a1 : Nat} {b1 : Bool} {l : List α} {a2 : Nat} {b2 : Bool}
  (hv : Rel No (pvar s) a bad n a1 b1) (hn : ¬ n > most) (h : RInv D p a1 b1 n.toNat l a2 b2) : Rel (fun l => ∃ x ∈ l, D x) (plist p most s) a bad l a2 b2 := by
 refine Rel.seq hv ?_ (fun h => h.elim)
 rw [if_neg hn]
 exact h.2
theorem RInv.bads {α : Type} {D E : α → Prop} {p : Nat → Option (α × Nat)} {s : ByteArray} {most : Int} {a : Nat} {bad : Bool} {n : Int} {a1 : Nat} {b1 : Bool} {l : List α} {a2 : Nat} {k : Nat} (G : List α → Prop)
  (hv : Rel No (pvar s) a bad n a1 b1) (hk : (k : Int) ≤ n) (h : RInv D p a1 b1 k l a2 true) : Rel G (plist p most s) a bad l a2 true := by
 refine Rel.seq hv ?_ (fun h => h.elim)
 by_cases hn : n > most
 ·rw [if_pos hn]
  unfold Rel
  split
  ·rfl
  ·exact .inl rfl
 ·rw [if_neg hn]
  have h2 := h.2
  unfold Rel at h2 ⊢
  split
  ·rfl
  ·rename_i hb
   rw [if_neg hb] at h2
   cases hp : prep p k a1 with
   | some y =>
    rw [hp] at h2
    cases h2.2.2
   | none =>
    rw [prep_none hp n.toNat (by omega)]
    exact .inl rfl
theorem rel_many {α : Type} {p : Nat → Option (α × Nat)} {s : ByteArray} {most : Int} {a : Nat} {bad : Bool} {n : Int} {a1 : Nat} {b1 : Bool} {l : List α} {a2 : Nat} {b2 : Bool} (G : List α → Prop)
  (hv : Rel No (pvar s) a bad n a1 b1) (hn : n > most) (hb : b1 = true → b2 = true) (hG : b2 = true ∨ G l) : Rel G (plist p most s) a bad l a2 b2 := by
 refine Rel.seq hv ?_ (fun h => h.elim)
 rw [if_pos hn]
 unfold Rel
 split
 ·rename_i h
  exact hb h
 ·exact hG
theorem RInv.stays {α : Type} {D : α → Prop} {p : Nat → Option (α × Nat)} {a : Nat} {k : Nat} {l : List α} {a' : Nat} {bad' : Bool} (h : RInv D p a true k l a' bad') : bad' = true := h.2.bad
end Go.Proofs.Ytcbaokflimdjnaa.Law
end
section
namespace Go.Proofs.Ytcbaokflimdjnaa.Steps
open Go.RowKit Go.Proofs.Ytcbaokflimdjnaa Go.Proofs.YtcbaokflimdjnaaW.PrintWords Go.Proofs.YtcbaokflimdjnaaW.PrintLast
variable {P : Program} {ops : Array Oper} {Q : Exit → Act → World → Prop} {md : Region.Mode} {S : World → Prop} {ds : List Nat} {T : Bool × List (List Nat × List Nat)} {B : List Nat} {oi oj : Oper} {v : Value} {fuel : Nat} {l : Array Bool} {a a' : Act} {w : World} {N M : Option Tmp}
theorem pz (i k : Nat) (h : wpAnyLast P md ops Q S ds fuel (l.setIfInBounds i true) a' w) (hi : ops[i]? = some oi := by rfl) (hN : oi.dst = some k := by rfl) (hT : Aside0 (rtab md ops = T) := by assumption)
  (hc : anyT T l.toList (l.setIfInBounds i true).toList i = true := by kernel_rfl) (hQ : ∀ c a w, Q (.panic c) (a.put oi.dst v) w → Q (.panic c) a w := by exact fun _ _ _ h => h)
  (hw : Region.wanted oi (yielded ops a.tmps) = true := by rfl) (hy : ∀ w, (execOp a.eval oi).run P w = .ok (.value v) w := by intro w'; go_simp; with_reducible rfl)
  (ha : a.put (some k) v = a' := by simp only [Act.put, List.setIfInBounds_toArray, List.set_cons_zero, List.set_cons_succ, i64_w, i32_w]; rfl) : wpAnyLast P md ops Q S ds (fuel + 1) l a w :=
 pure_ (i := i) _ hi hN (any_of hT.out hc) hQ (Or.inl ⟨hw, hy⟩) ha h
theorem oz (i k : Nat) (h : wpAnyLast P md ops Q S ds fuel (l.setIfInBounds i true) a' w) (hi : ops[i]? = some oi := by rfl) (hN : oi.dst = some k := by rfl) (hT : Aside0 (rtab md ops = T) := by assumption)
  (hc : anyT T l.toList (l.setIfInBounds i true).toList i = true := by kernel_rfl) (hQ : ∀ c a w, Q (.panic c) (a.put oi.dst undef) w → Q (.panic c) a w := by exact fun _ _ _ h => h)
  (hw : Region.wanted oi (yielded ops a.tmps) = false := by rfl)
  (ha : a.put (some k) undef = a' := by simp only [Act.put, List.setIfInBounds_toArray, List.set_cons_zero, List.set_cons_succ, i64_w, i32_w]; rfl) : wpAnyLast P md ops Q S ds (fuel + 1) l a w :=
 pure_ (i := i) _ hi hN (any_of hT.out hc) hQ (Or.inr ⟨hw, rfl⟩) ha h
theorem tz (i k : Nat) (h : wpAnyLast P md ops Q S ds fuel (l.setIfInBounds i true) a' w) (hi : ops[i]? = some oi := by rfl) (hN : oi.dst = some k := by rfl) (hT : Aside0 (rtab md ops = T) := by assumption)
  (hB : Aside0 (waitsOk T.2 B = true) := by assumption) (hc : takeW T B ds l.toList (l.setIfInBounds i true).toList i = true := by kernel_rfl) (hS : S w := by assumption) (hQ : ∀ c a w, Q (.panic c) (a.put oi.dst v) w → Q (.panic c) a w := by exact fun _ _ _ h => h)
  (hw : Region.wanted oi (yielded ops a.tmps) = true := by rfl) (hy : ∀ w, S w → (execOp a.eval oi).run P w = .ok (.value v) w := by intro w' h'; (try simp only at h'); repeat (cases h' with | intro _ h' => ?_); go_simp; with_reducible rfl)
  (ha : a.put (some k) v = a' := by simp only [Act.put, List.setIfInBounds_toArray, List.set_cons_zero, List.set_cons_succ, i64_w, i32_w]; rfl) : wpAnyLast P md ops Q S ds (fuel + 1) l a w :=
 take_ (i := i) _ hi hN (take_ofW hT.out hB.out hc) hQ (Or.inl ⟨hw, hy⟩) hS ha h
theorem ez (i : Nat) (N : Option Tmp) (h : ∀ K : Act → World → Prop, Shut (∀ a' w', S w' → (S w' → wpAnyLast P md ops Q S ds fuel (l.setIfInBounds i true) a' w') → K a' w') → if Region.wanted oi (yielded ops a.tmps) = true then Oper.wp P oi a w K Q else K (a.put N undef) w)
  (hi : ops[i]? = some oi := by rfl) (hN : oi.dst = N := by rfl) (hT : Aside0 (rtab md ops = T) := by assumption) (hc : (readyT T.2 l.toList == [i] && l.toList.set i true == (l.setIfInBounds i true).toList) = true := by kernel_rfl) (hd : i ∉ ds := by decide) : wpAnyLast P md ops Q S ds (fuel + 1) l a w :=
 one_ (i := i) _ hi hN (one_of hT.out hc) hd h
theorem lz (i : Nat) (N : Option Tmp) (h : ∀ K : Act → World → Prop, Shut (∀ a' w', wpAnyLast P md ops Q S ds fuel (l.setIfInBounds i true) a' w' → K a' w') → if Region.wanted oi (yielded ops a.tmps) = true then Oper.wp P oi a w K Q else K (a.put N undef) w)
  (hi : ops[i]? = some oi := by rfl) (hN : oi.dst = N := by rfl) (hT : Aside0 (rtab md ops = T) := by assumption) (hc : (readyT T.2 l.toList == [i] && l.toList.set i true == (l.setIfInBounds i true).toList) = true := by kernel_rfl) (hd : i ∈ ds := by decide) : wpAnyLast P md ops Q S ds (fuel + 1) l a w :=
 last_ (i := i) _ hi hN (one_of hT.out hc) hd h
theorem dz (h : Q .normal a w) (hT : Aside0 (rtab md ops = T) := by assumption) (hc : (readyT T.2 l.toList == []) = true := by kernel_rfl) : wpAnyLast P md ops Q S ds fuel l a w := done_ (done_of hT.out hc) h
theorem kz (N : Option Tmp) (h : wpAnyLast P md ops Q S ds fuel l a' w) (ha : a.put N v = a' := by simp only [Act.put, List.setIfInBounds_toArray, List.set_cons_zero, List.set_cons_succ, i64_w, i32_w]; rfl) : wpAnyLast P md ops Q S ds fuel l (a.put N v) w := by
 rw [ha]; exact h
theorem gz {K : Act → World → Prop} {f : FuncId} {fn : Go.Func} {ars : Array Operand} {ts : Array TypeId} (hf : P.funcs[f]? = some fn) (args : Array Value)
  (h : Calls P f args w fun e w' => ∃ v, e = .returned v ∧ K (a.put N v) w') (hname : (fn.name == "runtime.NumGoroutine") = false := by kernel_rfl) (hb : fn.body.isSome = true := by rfl)
  (hw : Region.wanted oi (yielded ops a.tmps) = true := by rfl) (hN : oi.dst = N := by rfl) (hop : oi.op = .call { callee := .value (.func f), args := ars, argTypes := ts } := by rfl)
  (hargs : ars.map a.eval = args := by (try simp only [List.map_toArray, List.map_cons, List.map_nil]); first | done | rfl | (simp only [List.length_drop, List.length_take]; rfl)) :
  if Region.wanted oi (yielded ops a.tmps) = true then Oper.wp P oi a w K Q else K (a.put N undef) w := goes_ hf hname hb args hw hN hop hargs h
theorem sz {id : Nat} (n : Nat) (S : World → Prop) (ds : List Nat) (hT : rtab .any ops = T) (hB : waitsOk T.2 B = true) (hS : S w.drew)
  (h : Aside0 (rtab .any ops = T) → Aside0 (waitsOk T.2 B = true) → S w.drew → wpAnyLast P .any ops Q S ds n (Array.replicate n false) a w.drew)
  (hm : P.follows .mixedOrders = true := by kernel_rfl) (hn : ops.size = n := by rfl) : (Code.region id ops true).wp P Q a w := start_ _ hm hn rfl hS (h ⟨hT⟩ ⟨hB⟩)
end Go.Proofs.Ytcbaokflimdjnaa.Steps
end
section
namespace Go.Proofs.Ytcbaokflimdjnaa.Law
open Go.RowKit Go.Proofs.YtcbaokflimdjnaaW.PrintWords Go.Proofs.YtcbaokflimdjnaaW.PrintLast Go.Proofs.Ytcbaokflimdjnaa.Steps Go.Proofs.YtcbaokflimdjnaaW.PrintMore Go.Proofs.Ytcbaokflimdjnaa.Num Go.Proofs.Ytcbaokflimdjnaa
def RdAt (T : TypeId) (w0 w : World) (H : List Hold) (gr : Nat) (s : ByteArray) (a : Nat) (bad : Bool) : Prop := Mem w0 w (Hold.box gr #[.string s, .int .i64 (a : Int), .bool bad] T :: H)
def rvS.T1 : Bool × List (List Nat × List Nat) := (true, [([], []), ([0], [0]), ([1], [1]), ([2], [2]), ([], []), ([4], [4]), ([5], [5]), ([6], [6]), ([3, 7], [3, 7]), ([8], [8]), ([9], [9]), ([9], [9]), ([9], [9]), ([10, 8, 0, 1, 2, 3, 4, 5, 6, 7, 8, 9, 10], [10]), ([11, 13, 0, 1, 2, 3, 4, 5, 6, 7, 8, 9, 10, 11, 13], [11]), ([12, 14, 0, 1, 2, 3, 4, 5, 6, 7, 8, 9, 10, 11, 12, 13, 14], [12])])
def rvS.B1 : List Nat := [0, 1, 3, 7, 0, 16, 48, 112, 255, 511, 1023, 1023, 1023, 2047, 12287, 32767]
theorem rvS.tab1 : rtab .any (opsOf Try.f83 1) = rvS.T1 := by kernel_rfl
theorem rvS.bits1 : waitsOk rvS.T1.2 rvS.B1 = true := by kernel_rfl
set_option maxHeartbeats 2000000 in
set_option maxRecDepth 100000 in
theorem cVarAtS (s : ByteArray) (a : Nat) (bad : Bool) (hs : s.size ≤ 12000) (ha : a ≤ s.size) (w0 W : World) (H : List Hold) (gr : Nat) (M : RdAt 112 w0 W H gr s a bad) :
  Calls Try.prog 83 #[.pointer (some ⟨gr, 0, none⟩)] W fun e w' => e = .returned (.int .i64 (stV s a bad).1) ∧ RdAt 112 w0 w' H gr s (stV s a bad).2.1 (stV s a bad).2.2 := by
 have hu := Try.underlying112
 have M0 : Aside0 (Mem w0 W (Hold.box gr #[.string s, .int .i64 (a : Int), .bool bad] 112 :: H)) := ⟨M⟩; clear M
 go_enter Try.func83, Try.ntmps83
 go_upto_region 1 with fail
 refine sz 16 (fun W => W.cell? ⟨gr, 0, none⟩ = some (.string s) ∧ W.cell? ⟨gr, 1, none⟩ = some (.int .i64 (a : Int))) [] rvS.tab1 rvS.bits1 ⟨(M0.out.drew.box (.head _) 0).trans rfl, (M0.out.drew.box (.head _) 1).trans rfl⟩ (fun HT_ HW_ hHeld => ?_)
 have MD := Aside0.mk M0.out.drew
 clear M0
 generalize hwd : World.drew _ = wd at MD hHeld ⊢
 clear hwd
 refine pz 0 7 ?_; refine pz 1 8 ?_; refine pz 2 9 ?_; refine pz 4 11 ?_; refine pz 5 12 ?_; refine pz 6 13 ?_; refine tz 3 10 ?_; refine tz 7 14 ?_
 refine ez 8 (some 15) (fun K hK => ?_)
 refine gz Try.func123 #[.string s, .int .i64 (a : Int)] ?_
 refine (cRvS s a (by omega) ha _).mono ?_; rintro e w2 ⟨rfl, hb⟩
 have M1 := Aside0.mk (MD.out.step hb); clear hb
 refine ⟨_, rfl, ?_⟩
 refine hK.out _ _ ⟨(M1.out.box (.head _) 0).trans rfl, (M1.out.box (.head _) 1).trans rfl⟩ (fun hHeld => ?_); clear hK K; refine kz (some 15) ?_
 refine pz 9 6 ?_; refine pz 10 16 ?_; refine pz 11 17 ?_; refine pz 12 18 ?_; refine pz 13 3 ?_; refine pz 14 4 ?_; refine pz 15 5 ?_
 refine dz ?_
 clear hHeld HT_ HW_ MD
 have z0 := M1.out.box (.head _); have f0 := M1.out.free (.head _)
 cases bad with
 | true =>
  have M2 : Aside0 (Mem w0 (w2.setCell ⟨gr, 2, none⟩ (.bool true)) (Hold.box gr #[.string s, .int .i64 (a : Int), .bool true] 112 :: H)) := ⟨Mem.set (A := []) M1.out 2 (.bool true) rfl⟩
  clear M1
  go_wp2
  go_ret
  exact ⟨rfl, M2.out⟩
 | false =>
  cases hp : pvar s a with
  | none =>
   have M2 : Aside0 (Mem w0 (w2.setCell ⟨gr, 2, none⟩ (.bool true)) (Hold.box gr #[.string s, .int .i64 (a : Int), .bool true] 112 :: H)) := ⟨Mem.set (A := []) M1.out 2 (.bool true) rfl⟩
   have HR := Aside0.mk (show stV s a false = (0, a, true) from by unfold stV; rw [if_neg (by decide), hp])
   clear M1
   simp only [rvR]
   clear hp
   go_wp2
   go_ret
   exact ⟨by rw [HR.out]; rfl, by rw [HR.out]; exact M2.out⟩
  | some x =>
   obtain ⟨n, b⟩ := x
   have M2 : Aside0 (Mem w0 (w2.setCell ⟨gr, 1, none⟩ (.int .i64 (b : Int))) (Hold.box gr #[.string s, .int .i64 (b : Int), .bool false] 112 :: H)) := ⟨Mem.set (A := []) M1.out 1 (.int .i64 (b : Int)) rfl⟩
   have HR := Aside0.mk (show stV s a false = (n, b, false) from by unfold stV; rw [if_neg (by decide), hp])
   clear M1
   simp only [rvR]
   clear hp
   go_wp2
   go_ret
   exact ⟨by rw [HR.out]; rfl, by rw [HR.out]; exact M2.out⟩
def rvI.T1 : Bool × List (List Nat × List Nat) := (true, [([], []), ([0], [0]), ([1], [1]), ([2], [2]), ([], []), ([4], [4]), ([5], [5]), ([6], [6]), ([3, 7], [3, 7]), ([8], [8]), ([9], [9]), ([9], [9]), ([9], [9]), ([10, 8, 0, 1, 2, 3, 4, 5, 6, 7, 8, 9, 10], [10]), ([11, 13, 0, 1, 2, 3, 4, 5, 6, 7, 8, 9, 10, 11, 13], [11]), ([12, 14, 0, 1, 2, 3, 4, 5, 6, 7, 8, 9, 10, 11, 12, 13, 14], [12])])
def rvI.B1 : List Nat := [0, 1, 3, 7, 0, 16, 48, 112, 255, 511, 1023, 1023, 1023, 2047, 12287, 32767]
theorem rvI.tab1 : rtab .any (opsOf Try.f125 1) = rvI.T1 := by kernel_rfl
theorem rvI.bits1 : waitsOk rvI.T1.2 rvI.B1 = true := by kernel_rfl
set_option maxHeartbeats 2000000 in
set_option maxRecDepth 100000 in
theorem cVarAtI (s : ByteArray) (a : Nat) (bad : Bool) (hs : s.size ≤ 12000) (ha : a ≤ s.size) (w0 W : World) (H : List Hold) (gr : Nat) (M : RdAt 120 w0 W H gr s a bad) :
  Calls Try.prog 125 #[.pointer (some ⟨gr, 0, none⟩)] W fun e w' => e = .returned (.int .i64 (stV s a bad).1) ∧ RdAt 120 w0 w' H gr s (stV s a bad).2.1 (stV s a bad).2.2 := by
 have hu := Try.underlying120
 have M0 : Aside0 (Mem w0 W (Hold.box gr #[.string s, .int .i64 (a : Int), .bool bad] 120 :: H)) := ⟨M⟩; clear M
 go_enter Try.func125, Try.ntmps125
 go_upto_region 1 with fail
 refine sz 16 (fun W => W.cell? ⟨gr, 0, none⟩ = some (.string s) ∧ W.cell? ⟨gr, 1, none⟩ = some (.int .i64 (a : Int))) [] rvI.tab1 rvI.bits1 ⟨(M0.out.drew.box (.head _) 0).trans rfl, (M0.out.drew.box (.head _) 1).trans rfl⟩ (fun HT_ HW_ hHeld => ?_)
 have MD := Aside0.mk M0.out.drew
 clear M0
 generalize hwd : World.drew _ = wd at MD hHeld ⊢
 clear hwd
 refine pz 0 7 ?_; refine pz 1 8 ?_; refine pz 2 9 ?_; refine pz 4 11 ?_; refine pz 5 12 ?_; refine pz 6 13 ?_; refine tz 3 10 ?_; refine tz 7 14 ?_
 refine ez 8 (some 15) (fun K hK => ?_)
 refine gz Try.func160 #[.string s, .int .i64 (a : Int)] ?_
 refine (cRvI s a (by omega) ha _).mono ?_; rintro e w2 ⟨rfl, hb⟩
 have M1 := Aside0.mk (MD.out.step hb); clear hb
 refine ⟨_, rfl, ?_⟩
 refine hK.out _ _ ⟨(M1.out.box (.head _) 0).trans rfl, (M1.out.box (.head _) 1).trans rfl⟩ (fun hHeld => ?_); clear hK K; refine kz (some 15) ?_
 refine pz 9 6 ?_; refine pz 10 16 ?_; refine pz 11 17 ?_; refine pz 12 18 ?_; refine pz 13 3 ?_; refine pz 14 4 ?_; refine pz 15 5 ?_
 refine dz ?_
 clear hHeld HT_ HW_ MD
 have z0 := M1.out.box (.head _); have f0 := M1.out.free (.head _)
 cases bad with
 | true =>
  have M2 : Aside0 (Mem w0 (w2.setCell ⟨gr, 2, none⟩ (.bool true)) (Hold.box gr #[.string s, .int .i64 (a : Int), .bool true] 120 :: H)) := ⟨Mem.set (A := []) M1.out 2 (.bool true) rfl⟩
  clear M1
  go_wp2
  go_ret
  exact ⟨rfl, M2.out⟩
 | false =>
  cases hp : pvar s a with
  | none =>
   have M2 : Aside0 (Mem w0 (w2.setCell ⟨gr, 2, none⟩ (.bool true)) (Hold.box gr #[.string s, .int .i64 (a : Int), .bool true] 120 :: H)) := ⟨Mem.set (A := []) M1.out 2 (.bool true) rfl⟩
   have HR := Aside0.mk (show stV s a false = (0, a, true) from by unfold stV; rw [if_neg (by decide), hp])
   clear M1
   simp only [rvR]
   clear hp
   go_wp2
   go_ret
   exact ⟨by rw [HR.out]; rfl, by rw [HR.out]; exact M2.out⟩
  | some x =>
   obtain ⟨n, b⟩ := x
   have M2 : Aside0 (Mem w0 (w2.setCell ⟨gr, 1, none⟩ (.int .i64 (b : Int))) (Hold.box gr #[.string s, .int .i64 (b : Int), .bool false] 120 :: H)) := ⟨Mem.set (A := []) M1.out 1 (.int .i64 (b : Int)) rfl⟩
   have HR := Aside0.mk (show stV s a false = (n, b, false) from by unfold stV; rw [if_neg (by decide), hp])
   clear M1
   simp only [rvR]
   clear hp
   go_wp2
   go_ret
   exact ⟨by rw [HR.out]; rfl, by rw [HR.out]; exact M2.out⟩
def roI.T1 : Bool × List (List Nat × List Nat) := (true, [([], []), ([0], [0]), ([1], [1]), ([2], [2]), ([3], [3]), ([4], [4]), ([5, 4], [4, 5]), ([6, 4], [4, 6]), ([7, 4], [4, 7]), ([4], [4]), ([9, 4], [4, 9]), ([10, 4], [4, 10]), ([11, 4], [4, 11]), ([12, 4], [4, 12]), ([8, 13, 4], [4, 8, 13]), ([4, 14], [4, 14])])
def roI.B1 : List Nat := [0, 1, 3, 7, 15, 31, 63, 127, 255, 31, 543, 1567, 3615, 7711, 16383, 32767]
theorem roI.tab1 : rtab .any (opsOf Try.f126 1) = roI.T1 := by kernel_rfl
theorem roI.bits1 : waitsOk roI.T1.2 roI.B1 = true := by kernel_rfl
def roI.T5 : Bool × List (List Nat × List Nat) := (true, [([], []), ([0], [0]), ([1], [1]), ([2], [2]), ([], []), ([4], [4]), ([5], [5]), ([6], [6]), ([7], [7]), ([3, 8], [3, 8]), ([9], [9]), ([10, 0, 1, 2, 3, 4, 5, 6, 7, 8, 9, 10], [10])])
def roI.B5 : List Nat := [0, 1, 3, 7, 0, 16, 48, 112, 240, 511, 1023, 2047]
theorem roI.tab5 : rtab .any (opsOf Try.f126 5) = roI.T5 := by kernel_rfl
theorem roI.bits5 : waitsOk roI.T5.2 roI.B5 = true := by kernel_rfl
set_option maxHeartbeats 2000000 in
set_option maxRecDepth 100000 in
theorem cOneI (s : ByteArray) (a : Nat) (bad : Bool) (hs : s.size ≤ 12000) (ha : a ≤ s.size) (w0 W : World) (H : List Hold) (gr : Nat) (M : RdAt 120 w0 W H gr s a bad) :
  Calls Try.prog 126 #[.pointer (some ⟨gr, 0, none⟩)] W fun e w' => e = .returned (.int .i64 (stO s a bad).1) ∧ RdAt 120 w0 w' H gr s (stO s a bad).2.1 (stO s a bad).2.2 := by
 have hu := Try.underlying120
 have M0 : Aside0 (Mem w0 W (Hold.box gr #[.string s, .int .i64 (a : Int), .bool bad] 120 :: H)) := ⟨M⟩; clear M
 go_enter Try.func126, Try.ntmps126
 go_upto_region 1 with fail
 cases bad with
 | true =>
  have HR := Aside0.mk (show stO s a true = (0, a, true) from rfl)
  refine sz 16 (fun W => W.cell? ⟨gr, 0, none⟩ = some (.string s) ∧ W.cell? ⟨gr, 1, none⟩ = some (.int .i64 (a : Int)) ∧ W.cell? ⟨gr, 2, none⟩ = some (.bool true)) [] roI.tab1 roI.bits1 ⟨(M0.out.drew.box (.head _) 0).trans rfl, (M0.out.drew.box (.head _) 1).trans rfl, (M0.out.drew.box (.head _) 2).trans rfl⟩ (fun HT_ HW_ hHeld => ?_)
  have MD := Aside0.mk M0.out.drew
  clear M0
  generalize hwd : World.drew _ = wd at MD hHeld ⊢
  clear hwd
  refine pz 0 3 ?_; refine pz 1 4 ?_; refine pz 2 5 ?_; refine tz 3 6 ?_; refine pz 4 7 ?_; refine oz 5 8 ?_; refine oz 6 9 ?_; refine oz 7 10 ?_; refine oz 8 11 ?_; refine oz 9 12 ?_; refine oz 10 13 ?_; refine oz 11 14 ?_; refine oz 12 15 ?_; refine oz 13 16 ?_; refine oz 14 17 ?_; refine pz 15 18 ?_
  refine dz ?_
  clear hHeld HT_ HW_
  have z0 := MD.out.box (.head _); have f0 := MD.out.free (.head _)
  have M2 : Aside0 (Mem w0 (wd.setCell ⟨gr, 2, none⟩ (.bool true)) (Hold.box gr #[.string s, .int .i64 (a : Int), .bool true] 120 :: H)) := ⟨Mem.set (A := []) MD.out 2 (.bool true) rfl⟩
  clear MD
  go_wp2
  go_ret
  exact ⟨by rw [HR.out]; rfl, by rw [HR.out]; exact M2.out⟩
 | false =>
  by_cases hlt : a < s.size
  rotate_left
  ·have HR := Aside0.mk (show stO s a false = (0, a, true) from by unfold stO pone; rw [if_neg (by decide), if_neg hlt])
   have hge : (a : Int) ≥ (s.size : Int) := by omega
   refine sz 16 (fun W => W.cell? ⟨gr, 0, none⟩ = some (.string s) ∧ W.cell? ⟨gr, 1, none⟩ = some (.int .i64 (a : Int)) ∧ W.cell? ⟨gr, 2, none⟩ = some (.bool false)) [] roI.tab1 roI.bits1 ⟨(M0.out.drew.box (.head _) 0).trans rfl, (M0.out.drew.box (.head _) 1).trans rfl, (M0.out.drew.box (.head _) 2).trans rfl⟩ (fun HT_ HW_ hHeld => ?_)
   have MD := Aside0.mk M0.out.drew
   clear M0
   generalize hwd : World.drew _ = wd at MD hHeld ⊢
   clear hwd
   refine pz 0 3 ?_; refine pz 1 4 ?_; refine pz 2 5 ?_; refine tz 3 6 ?_; refine pz 4 7 ?_; refine pz 5 8 ?_; refine pz 6 9 ?_; refine pz 7 10 ?_; refine pz 9 12 ?_; refine pz 10 13 ?_; refine pz 11 14 ?_; refine tz 8 11 ?_; refine tz 12 15 ?_; refine pz 13 16 ?_; refine pz 14 17 ?_; refine pz 15 18 ?_
   refine dz ?_
   clear hHeld HT_ HW_
   have z0 := MD.out.box (.head _); have f0 := MD.out.free (.head _)
   have M2 : Aside0 (Mem w0 (wd.setCell ⟨gr, 2, none⟩ (.bool true)) (Hold.box gr #[.string s, .int .i64 (a : Int), .bool true] 120 :: H)) := ⟨Mem.set (A := []) MD.out 2 (.bool true) rfl⟩
   clear MD
   go_wp2
   go_ret
   exact ⟨by rw [HR.out]; rfl, by rw [HR.out]; exact M2.out⟩
  have HR := Aside0.mk (show stO s a false = (bt s (a : Int), a + 1, false) from by unfold stO pone; rw [if_neg (by decide), if_pos hlt])
  have hge : ¬ (a : Int) ≥ (s.size : Int) := by omega
  refine sz 16 (fun W => W.cell? ⟨gr, 0, none⟩ = some (.string s) ∧ W.cell? ⟨gr, 1, none⟩ = some (.int .i64 (a : Int)) ∧ W.cell? ⟨gr, 2, none⟩ = some (.bool false)) [] roI.tab1 roI.bits1 ⟨(M0.out.drew.box (.head _) 0).trans rfl, (M0.out.drew.box (.head _) 1).trans rfl, (M0.out.drew.box (.head _) 2).trans rfl⟩ (fun HT_ HW_ hHeld => ?_)
  have MD := Aside0.mk M0.out.drew
  clear M0
  generalize hwd : World.drew _ = wd at MD hHeld ⊢
  clear hwd
  refine pz 0 3 ?_; refine pz 1 4 ?_; refine pz 2 5 ?_; refine tz 3 6 ?_; refine pz 4 7 ?_; refine pz 5 8 ?_; refine pz 6 9 ?_; refine pz 7 10 ?_; refine pz 9 12 ?_; refine pz 10 13 ?_; refine pz 11 14 ?_; refine tz 8 11 ?_; refine tz 12 15 ?_; refine pz 13 16 ?_; refine pz 14 17 ?_; refine pz 15 18 ?_
  refine dz ?_
  clear hHeld HT_ HW_
  have z0 := MD.out.box (.head _); have f0 := MD.out.free (.head _)
  have M2 : Aside0 (Mem w0 (wd.setCell ⟨gr, 1, none⟩ (.int .i64 ((a : Int) + 1))) (Hold.box gr #[.string s, .int .i64 ((a : Int) + 1), .bool false] 120 :: H)) := ⟨Mem.set (A := []) MD.out 1 (.int .i64 ((a : Int) + 1)) rfl⟩
  clear MD
  go_upto_region 5 with fail
  clear z0 f0
  generalize hws : wd.setCell ⟨gr, 1, none⟩ (.int .i64 ((a : Int) + 1)) = ws at M2 ⊢
  clear hws
  have ha0 : (0 : Int) ≤ (a : Int) := by omega
  have hlt2 : (a : Int) < (s.size : Int) := by omega
  have hbt := bt_in s (a : Int)
  have wa : wrap64 ((a : Int) + 1 - 1) = (a : Int) := by rw [wrap64_id (by omega) (by omega)]; omega
  have wb : (a : Int) + 1 - 1 = (a : Int) := by omega
  have wc : wrap64 (bt s (a : Int)) = bt s (a : Int) := wrap64_id (by omega) (by omega)
  have wd1 : wrap64 (a : Int) = (a : Int) := wrap64_id (by omega) (by omega)
  have hidx := bt_at s (a : Int)
  have hidx2 : ∀ h : a < s.size, ((s[a]'h).toNat : Int) = bt s (a : Int) := fun h => bt_at s (a : Int) h
  refine sz 12 (fun W => W.cell? ⟨gr, 0, none⟩ = some (.string s) ∧ W.cell? ⟨gr, 1, none⟩ = some (.int .i64 ((a : Int) + 1)) ∧ W.cell? ⟨gr, 2, none⟩ = some (.bool false)) [] roI.tab5 roI.bits5 ⟨(M2.out.drew.box (.head _) 0).trans rfl, (M2.out.drew.box (.head _) 1).trans rfl, (M2.out.drew.box (.head _) 2).trans rfl⟩ (fun HT_ HW_ hHeld => ?_)
  have MD := Aside0.mk M2.out.drew
  clear M2
  generalize hwd : World.drew _ = wd at MD hHeld ⊢
  clear hwd
  refine pz 0 29 ?_; refine pz 1 30 ?_; refine pz 2 31 ?_; refine pz 4 33 ?_; refine pz 5 34 ?_; refine pz 6 35 ?_; refine tz 3 32 ?_; refine tz 7 36 ?_; refine pz 8 37 ?_; refine pz 9 38 ?_; refine pz 10 39 ?_; refine pz 11 2 ?_
  refine dz ?_
  clear hHeld HT_ HW_
  go_wp2
  go_ret
  exact ⟨by rw [HR.out]; rfl, by rw [HR.out]; exact MD.out⟩
def stT (s : ByteArray) (a : Nat) (bad : Bool) (m : Nat) : ByteArray × Nat × Bool :=
 if bad = true then (⟨#[]⟩, a, true) else if (m : Int) > (s.size : Int) - (a : Int) then (⟨#[]⟩, a, true) else (s.extract a (a + m), a + m, false)
def rtS.T1 : Bool × List (List Nat × List Nat) := (true, [([], []), ([0], [0]), ([1], [1]), ([2], [2]), ([3], [3]), ([4], [4]), ([4], [4]), ([6, 4], [4, 6]), ([7, 4], [4, 7]), ([8, 4], [4, 8]), ([9, 4], [4, 9]), ([4], [4]), ([11, 4], [4, 11]), ([12, 4], [4, 12]), ([13, 4], [4, 13]), ([10, 14, 4], [4, 10, 14]), ([5, 15, 4], [4, 5, 15]), ([4, 16], [4, 16])])
def rtS.B1 : List Nat := [0, 1, 3, 7, 15, 31, 31, 95, 223, 479, 991, 31, 2079, 6175, 14367, 32735, 65535, 131071]
theorem rtS.tab1 : rtab .any (opsOf Try.f82 1) = rtS.T1 := by kernel_rfl
theorem rtS.bits1 : waitsOk rtS.T1.2 rtS.B1 = true := by kernel_rfl
def rtS.T5 : Bool × List (List Nat × List Nat) := (true, [([], []), ([0], [0]), ([1], [1]), ([2], [2]), ([], []), ([4], [4]), ([5], [5]), ([6], [6]), ([], []), ([7, 8], [7, 8]), ([], []), ([10], [10]), ([11], [11]), ([12], [12]), ([3, 9, 13], [3, 9, 13]), ([14, 0, 1, 2, 3, 4, 5, 6, 7, 8, 9, 10, 11, 12, 13, 14], [14])])
def rtS.B5 : List Nat := [0, 1, 3, 7, 0, 16, 48, 112, 0, 496, 0, 1024, 3072, 7168, 16383, 32767]
theorem rtS.tab5 : rtab .any (opsOf Try.f82 5) = rtS.T5 := by kernel_rfl
theorem rtS.bits5 : waitsOk rtS.T5.2 rtS.B5 = true := by kernel_rfl
set_option maxHeartbeats 2000000 in
set_option maxRecDepth 100000 in
theorem cTakeS (s : ByteArray) (a : Nat) (bad : Bool) (m : Nat) (hm : m ≤ 1000000000) (hs : s.size ≤ 12000) (ha : a ≤ s.size) (w0 W : World) (H : List Hold) (gr : Nat) (M : RdAt 112 w0 W H gr s a bad) :
  Calls Try.prog 82 #[.pointer (some ⟨gr, 0, none⟩), .int .i64 (m : Int)] W fun e w' => e = .returned (.string (stT s a bad m).1) ∧ RdAt 112 w0 w' H gr s (stT s a bad m).2.1 (stT s a bad m).2.2 := by
 have hu := Try.underlying112
 have M0 : Aside0 (Mem w0 W (Hold.box gr #[.string s, .int .i64 (a : Int), .bool bad] 112 :: H)) := ⟨M⟩; clear M
 go_enter Try.func82, Try.ntmps82
 go_upto_region 1 with fail
 have w1 : wrap64 ((s.size : Int) - (a : Int)) = (s.size : Int) - (a : Int) := wrap64_id (by omega) (by omega)
 cases bad with
 | true =>
  have HR := Aside0.mk (show stT s a true m = (⟨#[]⟩, a, true) from rfl)
  refine sz 18 (fun W => W.cell? ⟨gr, 0, none⟩ = some (.string s) ∧ W.cell? ⟨gr, 1, none⟩ = some (.int .i64 (a : Int)) ∧ W.cell? ⟨gr, 2, none⟩ = some (.bool true)) [] rtS.tab1 rtS.bits1 ⟨(M0.out.drew.box (.head _) 0).trans rfl, (M0.out.drew.box (.head _) 1).trans rfl, (M0.out.drew.box (.head _) 2).trans rfl⟩ (fun HT_ HW_ hHeld => ?_)
  have MD := Aside0.mk M0.out.drew
  clear M0
  generalize hwd : World.drew _ = wd at MD hHeld ⊢
  clear hwd
  refine pz 0 5 ?_; refine pz 1 6 ?_; refine pz 2 7 ?_; refine tz 3 8 ?_; refine pz 4 9 ?_; refine oz 5 10 ?_; refine oz 6 11 ?_; refine oz 7 12 ?_; refine oz 8 13 ?_; refine oz 9 14 ?_; refine oz 10 15 ?_; refine oz 11 16 ?_; refine oz 12 17 ?_; refine oz 13 18 ?_; refine oz 14 19 ?_; refine oz 15 20 ?_; refine oz 16 21 ?_; refine pz 17 22 ?_
  refine dz ?_
  clear hHeld HT_ HW_
  have z0 := MD.out.box (.head _); have f0 := MD.out.free (.head _)
  have M2 : Aside0 (Mem w0 (wd.setCell ⟨gr, 2, none⟩ (.bool true)) (Hold.box gr #[.string s, .int .i64 (a : Int), .bool true] 112 :: H)) := ⟨Mem.set (A := []) MD.out 2 (.bool true) rfl⟩
  clear MD
  go_wp2
  go_ret
  exact ⟨by rw [HR.out]; rfl, by rw [HR.out]; exact M2.out⟩
 | false =>
  by_cases hbig : (m : Int) > (s.size : Int) - (a : Int)
  ·have HR := Aside0.mk (show stT s a false m = (⟨#[]⟩, a, true) from by unfold stT; rw [if_neg (by decide), if_pos hbig])
   refine sz 18 (fun W => W.cell? ⟨gr, 0, none⟩ = some (.string s) ∧ W.cell? ⟨gr, 1, none⟩ = some (.int .i64 (a : Int)) ∧ W.cell? ⟨gr, 2, none⟩ = some (.bool false)) [] rtS.tab1 rtS.bits1 ⟨(M0.out.drew.box (.head _) 0).trans rfl, (M0.out.drew.box (.head _) 1).trans rfl, (M0.out.drew.box (.head _) 2).trans rfl⟩ (fun HT_ HW_ hHeld => ?_)
   have MD := Aside0.mk M0.out.drew
   clear M0
   generalize hwd : World.drew _ = wd at MD hHeld ⊢
   clear hwd
   refine pz 0 5 ?_; refine pz 1 6 ?_; refine pz 2 7 ?_; refine tz 3 8 ?_; refine pz 4 9 ?_; refine pz 5 10 ?_; refine pz 6 11 ?_; refine pz 7 12 ?_; refine pz 8 13 ?_; refine pz 11 16 ?_; refine pz 12 17 ?_; refine pz 13 18 ?_; refine tz 9 14 ?_; refine pz 10 15 ?_; refine tz 14 19 ?_; refine pz 15 20 ?_; refine pz 16 21 ?_; refine pz 17 22 ?_
   refine dz ?_
   clear hHeld HT_ HW_
   have z0 := MD.out.box (.head _); have f0 := MD.out.free (.head _)
   have M2 : Aside0 (Mem w0 (wd.setCell ⟨gr, 2, none⟩ (.bool true)) (Hold.box gr #[.string s, .int .i64 (a : Int), .bool true] 112 :: H)) := ⟨Mem.set (A := []) MD.out 2 (.bool true) rfl⟩
   clear MD
   go_wp2
   go_ret
   exact ⟨by rw [HR.out]; rfl, by rw [HR.out]; exact M2.out⟩
  have HR := Aside0.mk (show stT s a false m = (s.extract a (a + m), a + m, false) from by unfold stT; rw [if_neg (by decide), if_neg hbig])
  refine sz 18 (fun W => W.cell? ⟨gr, 0, none⟩ = some (.string s) ∧ W.cell? ⟨gr, 1, none⟩ = some (.int .i64 (a : Int)) ∧ W.cell? ⟨gr, 2, none⟩ = some (.bool false)) [] rtS.tab1 rtS.bits1 ⟨(M0.out.drew.box (.head _) 0).trans rfl, (M0.out.drew.box (.head _) 1).trans rfl, (M0.out.drew.box (.head _) 2).trans rfl⟩ (fun HT_ HW_ hHeld => ?_)
  have MD := Aside0.mk M0.out.drew
  clear M0
  generalize hwd : World.drew _ = wd at MD hHeld ⊢
  clear hwd
  refine pz 0 5 ?_; refine pz 1 6 ?_; refine pz 2 7 ?_; refine tz 3 8 ?_; refine pz 4 9 ?_; refine pz 5 10 ?_; refine pz 6 11 ?_; refine pz 7 12 ?_; refine pz 8 13 ?_; refine pz 11 16 ?_; refine pz 12 17 ?_; refine pz 13 18 ?_; refine tz 9 14 ?_; refine pz 10 15 ?_; refine tz 14 19 ?_; refine pz 15 20 ?_; refine pz 16 21 ?_; refine pz 17 22 ?_
  refine dz ?_
  clear hHeld HT_ HW_
  have z0 := MD.out.box (.head _); have f0 := MD.out.free (.head _)
  have M2 : Aside0 (Mem w0 (wd.setCell ⟨gr, 1, none⟩ (.int .i64 ((a : Int) + (m : Int)))) (Hold.box gr #[.string s, .int .i64 ((a : Int) + (m : Int)), .bool false] 112 :: H)) := ⟨Mem.set (A := []) MD.out 1 (.int .i64 ((a : Int) + (m : Int))) rfl⟩
  clear MD
  have w2 : wrap64 ((a : Int) + (m : Int)) = (a : Int) + (m : Int) := wrap64_id (by omega) (by omega)
  go_upto_region 5 with fail
  clear z0 f0
  generalize hws : wd.setCell ⟨gr, 1, none⟩ (.int .i64 ((a : Int) + (m : Int))) = ws at M2 ⊢
  clear hws
  have ha0 : (0 : Int) ≤ (a : Int) := by omega
  have hlo : (a : Int) ≤ (a : Int) + (m : Int) := by omega
  have hhi : (a : Int) + (m : Int) ≤ (s.size : Int) := by omega
  have hhi2 : a + m ≤ s.size := by omega
  have wa : wrap64 (a : Int) = (a : Int) := wrap64_id (by omega) (by omega)
  have tn : ((a : Int) + (m : Int)).toNat = a + m := by omega
  refine sz 16 (fun W => W.cell? ⟨gr, 0, none⟩ = some (.string s) ∧ W.cell? ⟨gr, 1, none⟩ = some (.int .i64 ((a : Int) + (m : Int))) ∧ W.cell? ⟨gr, 2, none⟩ = some (.bool false)) [] rtS.tab5 rtS.bits5 ⟨(M2.out.drew.box (.head _) 0).trans rfl, (M2.out.drew.box (.head _) 1).trans rfl, (M2.out.drew.box (.head _) 2).trans rfl⟩ (fun HT_ HW_ hHeld => ?_)
  have MD := Aside0.mk M2.out.drew
  clear M2
  generalize hwd : World.drew _ = wd at MD hHeld ⊢
  clear hwd
  refine pz 0 35 ?_; refine pz 1 36 ?_; refine pz 2 37 ?_; refine pz 4 39 ?_; refine pz 5 40 ?_; refine pz 6 41 ?_; refine pz 8 43 ?_; refine pz 10 45 ?_; refine pz 11 46 ?_; refine pz 12 47 ?_; refine tz 3 38 ?_; refine tz 7 42 ?_; refine pz 9 44 ?_; refine tz 13 48 ?_; refine pz 14 49 ?_; refine pz 15 4 ?_
  refine dz ?_
  clear hHeld HT_ HW_
  go_wp2
  go_ret
  exact ⟨by rw [HR.out]; rfl, by rw [HR.out]; exact MD.out⟩
theorem stT_one (s : ByteArray) (a : Nat) (bad : Bool) : ((stT s a bad 1).2.1 = (stO s a bad).2.1 ∧ (stT s a bad 1).2.2 = (stO s a bad).2.2) ∧ ((stO s a bad).2.2 = true → (stO s a bad).1 = 0) ∧ ((stO s a bad).2.2 = false → (stT s a bad 1).1.size = 1 ∧ bt (stT s a bad 1).1 0 = (stO s a bad).1) := by
 unfold stT stO pone
 cases bad
 ·rw [if_neg (show ¬ false = true by decide), if_neg (show ¬ false = true by decide)]
  by_cases h : a < s.size
  ·rw [if_neg (show ¬ ((1 : Nat) : Int) > (s.size : Int) - (a : Int) by omega), if_pos h]
   refine ⟨⟨rfl, rfl⟩, fun e => (by cases e), fun _ => ⟨?_, ?_⟩⟩
   ·show (s.extract a (a + 1)).size = 1
    rw [ByteArray.size_extract]; omega
   ·show bt (s.extract a (a + 1)) 0 = bt s (a : Int)
    have e := ext_bytes s a 1 (by omega)
    have e2 : rd (bytesOf (s.extract a (a + 1))) 0 = bt (s.extract a (a + 1)) 0 := rd_bytesOf _ _
    rw [e] at e2
    rw [← e2]
    simp [ext, rd]
  ·rw [if_pos (show ((1 : Nat) : Int) > (s.size : Int) - (a : Int) by omega), if_neg h]
   exact ⟨⟨rfl, rfl⟩, fun _ => rfl, fun e => (by cases e)⟩
 ·rw [if_pos rfl, if_pos rfl]
  exact ⟨⟨rfl, rfl⟩, fun _ => rfl, fun e => (by cases e)⟩
set_option maxHeartbeats 2000000 in
set_option maxRecDepth 100000 in
theorem cOneS (s : ByteArray) (a : Nat) (bad : Bool) (hs : s.size ≤ 12000) (ha : a ≤ s.size) (w0 W : World) (H : List Hold) (gr : Nat) (M : RdAt 112 w0 W H gr s a bad) :
  Calls Try.prog 124 #[.pointer (some ⟨gr, 0, none⟩)] W fun e w' => e = .returned (.int .i64 (stO s a bad).1) ∧ RdAt 112 w0 w' H gr s (stO s a bad).2.1 (stO s a bad).2.2 := by
 have hu := Try.underlying112
 have HO := Aside0.mk (stT_one s a bad)
 have HI := Aside0.mk (stO_in s ha bad)
 generalize hr : stO s a bad = r at HO HI ⊢
 obtain ⟨v, a1, b1⟩ := r
 clear hr
 simp only at HO HI ⊢
 go_enter Try.func124, Try.ntmps124
 go_wp2_with fail
 refine (cTakeS s a bad 1 (by omega) hs ha w0 _ H gr M).mono ?_
 rintro e w1 ⟨rfl, h⟩
 rw [HO.out.1.1, HO.out.1.2] at h
 have h2 := HO.out.2
 clear HO
 generalize (stT s a bad 1).1 = t at h2 ⊢
 have M1 : Aside0 (Mem w0 w1 (Hold.box gr #[.string s, .int .i64 (a1 : Int), .bool b1] 112 :: H)) := ⟨h⟩
 clear h
 have z0 := M1.out.box (.head _)
 cases b1 with
 | true =>
  have hv := h2.1 rfl
  clear h2
  subst hv
  go_wp2
  go_ret
  exact ⟨rfl, M1.out⟩
 | false =>
  obtain ⟨hsz, hb⟩ := h2.2 rfl
  clear h2
  have hi0 : (0 : Int) < (t.size : Int) := by omega
  have hv := HI.out.1
  have wv : wrap64 v = v := wrap64_id (by omega) (by omega)
  have hidx : ∀ h : 0 < t.size, ((t[0]'h).toNat : Int) = v := fun h => by rw [← hb]; exact bt_at t 0 h
  go_wp2
  go_ret
  exact ⟨rfl, M1.out⟩
def stM (s : ByteArray) (a : Nat) (bad : Bool) (most : Int) : Int × Nat × Bool := if (stV s a bad).1 > most then (0, (stV s a bad).2.1, true) else stV s a bad
set_option maxHeartbeats 2000000 in
set_option maxRecDepth 100000 in
theorem cManyI (s : ByteArray) (a : Nat) (bad : Bool) (most : Int) (hs : s.size ≤ 12000) (ha : a ≤ s.size) (w0 W : World) (H : List Hold) (gr : Nat) (M : RdAt 120 w0 W H gr s a bad) :
  Calls Try.prog 88 #[.pointer (some ⟨gr, 0, none⟩), .int .i64 most] W fun e w' => e = .returned (.int .i64 (stM s a bad most).1) ∧ RdAt 120 w0 w' H gr s (stM s a bad most).2.1 (stM s a bad most).2.2 := by
 have hu := Try.underlying120
 have HI := Aside0.mk (stV_in s ha bad)
 unfold stM
 have hr := cVarAtI s a bad hs ha
 generalize stV s a bad = r at HI hr ⊢
 obtain ⟨v, a1, b1⟩ := r
 have HC := Aside0.mk hr; clear hr
 simp only at HI ⊢
 go_enter Try.func88, Try.ntmps88
 go_wp2_with fail
 refine (HC.out w0 _ H gr M).mono ?_
 rintro e w1 ⟨rfl, h⟩
 simp only at h ⊢
 have M1 : Aside0 (Mem w0 w1 (Hold.box gr #[.string s, .int .i64 (a1 : Int), .bool b1] 120 :: H)) := ⟨h⟩
 clear h
 have z0 := M1.out.box (.head _); have f0 := M1.out.free (.head _)
 by_cases hv : v > most
 ·have HR := Aside0.mk (show (if v > most then ((0 : Int), a1, true) else (v, a1, b1)) = (0, a1, true) from if_pos hv)
  have M2 : Aside0 (Mem w0 (w1.setCell ⟨gr, 2, none⟩ (.bool true)) (Hold.box gr #[.string s, .int .i64 (a1 : Int), .bool true] 120 :: H)) := ⟨Mem.set (A := []) M1.out 2 (.bool true) rfl⟩
  clear M1
  go_wp2
  go_ret
  exact ⟨rfl, M2.out⟩
 ·have HR := Aside0.mk (show (if v > most then ((0 : Int), a1, true) else (v, a1, b1)) = (v, a1, b1) from if_neg hv)
  go_wp2
  go_ret
  exact ⟨rfl, M1.out⟩
end Go.Proofs.Ytcbaokflimdjnaa.Law
end
section
namespace Go.Proofs.Ytcbaokflimdjnaa.Law
open Go.RowKit Go.Proofs.YtcbaokflimdjnaaW.PrintWords Go.Proofs.YtcbaokflimdjnaaW.PrintLast Go.Proofs.Ytcbaokflimdjnaa.Steps Go.Proofs.YtcbaokflimdjnaaW.PrintMore Go.Proofs.Ytcbaokflimdjnaa.Num Go.Proofs.Ytcbaokflimdjnaa
def CPost (T : TypeId) (w0 : World) (H : List Hold) (gr : Nat) (s : ByteArray) (a : Nat) (bad : Bool) (e : Ending) (w' : World) : Prop :=
 ∃ (c : Const) (a' : Nat) (bad' : Bool), e = .returned (.agg #[.int .i64 c.kind, .int .u64 c.num, .string c.text]) ∧ RdAt T w0 w' H gr s a' bad' ∧ a' ≤ s.size ∧ (0 ≤ c.num ∧ c.num < 18446744073709551616) ∧ Rel No (pconst s) a bad c a' bad'
theorem num8_ext (s : ByteArray) (a : Nat) (h8 : a + 8 ≤ s.size) : ∀ k, k ≤ 8 → num8 (s.extract a (a + 8)) 0 k = num8 s a k := by
 intro k
 induction k with
 | zero => intro _; rfl
 | succ k ih =>
  intro h
  rw [num8, num8, ih (by omega)]
  congr 1
  have e := ext_bytes s a 8 h8
  have e2 : rd (bytesOf (s.extract a (a + 8))) ((0 + k : Nat) : Int) = bt (s.extract a (a + 8)) ((0 + k : Nat) : Int) := rd_bytesOf _ _
  rw [e] at e2
  rw [← e2]
  unfold rd
  rw [Int.toNat_natCast, Nat.zero_add]
  have hk : k < 8 := by omega
  simp [ext, List.getD_eq_getElem?_getD, hk]
theorem stT_in (s : ByteArray) {a : Nat} (ha : a ≤ s.size) (bad : Bool) (m : Nat) : (stT s a bad m).2.1 ≤ s.size := by
 unfold stT
 split
 ·exact ha
 ·split
  ·exact ha
  ·show a + m ≤ s.size
   omega
theorem rel_take (s : ByteArray) (a : Nat) (bad : Bool) (m : Nat) : Rel No (pc2 s (m : Int)) a bad (⟨2, 0, (stT s a bad m).1⟩ : Const) (stT s a bad m).2.1 (stT s a bad m).2.2 := by
 unfold Rel stT pc2
 cases bad
 ·rw [if_neg (show ¬ false = true by decide), if_neg (show ¬ false = true by decide)]
  by_cases h : (m : Int) > (s.size : Int) - (a : Int)
  ·rw [if_pos h, if_neg (show ¬ (m : Int) ≤ (s.size : Int) - (a : Int) by omega)]
   exact .inl rfl
  ·rw [if_neg h, if_pos (show (m : Int) ≤ (s.size : Int) - (a : Int) by omega), Int.toNat_natCast]
   exact ⟨rfl, rfl, rfl⟩
 ·rw [if_pos rfl, if_pos rfl]
theorem rel_eight (s : ByteArray) (a1 : Nat) (b1 : Bool) (t : ByteArray) (a2 : Nat) (b2 : Bool) (n : Int) (hn : n = num8 t 0 t.size)
  (h : (b2 = false → b1 = false ∧ a1 + 8 ≤ s.size ∧ t = s.extract a1 (a1 + 8) ∧ a2 = a1 + 8) ∧ (b2 = true → t = ⟨#[]⟩ ∧ a2 ≤ s.size ∧ (b1 = true ∨ s.size < a1 + 8))) : Rel No (pc1 s) a1 b1 (⟨1, n, ⟨#[]⟩⟩ : Const) a2 b2 := by
 unfold Rel pc1
 cases b1
 ·rw [if_neg (show ¬ false = true by decide)]
  by_cases h8 : a1 + 8 ≤ s.size
  ·rw [if_pos h8]
   cases b2
   ·obtain ⟨_, _, rfl, rfl⟩ := h.1 rfl
    have hs : (s.extract a1 (a1 + 8)).size = 8 := by rw [ByteArray.size_extract]; omega
    rw [hs, num8_ext s a1 h8 8 (by omega)] at hn
    exact ⟨by rw [hn], rfl, rfl⟩
   ·rcases (h.2 rfl).2.2 with e | e
    ·cases e
    ·omega
  ·rw [if_neg h8]
   cases b2
   ·exact absurd (h.1 rfl).2.1 h8
   ·exact .inl rfl
 ·rw [if_pos rfl]
  cases b2
  ·exact absurd (h.1 rfl).1 (by decide)
  ·rfl
def rcS.T7 : Bool × List (List Nat × List Nat) := (true, [([], []), ([0], [0]), ([1], [1]), ([], []), ([], []), ([3, 4], [3, 4]), ([5], [5]), ([2, 6], [2, 6]), ([0, 1, 2, 3, 4, 5, 6, 7], []), ([8, 7, 0, 1, 2, 3, 4, 5, 6, 7], [7, 8])])
def rcS.B7 : List Nat := [0, 1, 3, 0, 0, 24, 56, 127, 255, 511]
theorem rcS.tab7 : rtab .any (opsOf Try.f84 7) = rcS.T7 := by kernel_rfl
theorem rcS.bits7 : waitsOk rcS.T7.2 rcS.B7 = true := by kernel_rfl
set_option maxHeartbeats 4000000 in
set_option maxRecDepth 100000 in
theorem cConstS (s : ByteArray) (a : Nat) (bad : Bool) (hs : s.size ≤ 12000) (ha : a ≤ s.size) (w0 W : World) (H : List Hold) (gr : Nat) (M : RdAt 112 w0 W H gr s a bad) :
  Calls Try.prog 84 #[.pointer (some ⟨gr, 0, none⟩)] W fun e w' => CPost 112 w0 H gr s a bad e w' := by
 have hu := Try.underlying112; have hu1 := Try.underlying100; have hu2 := Try.underlying3; have hu3 := Try.underlying98; have hu4 := Try.underlying9
 obtain ⟨g2, hg2⟩ : ∃ g2, g2 = W.heap.size := ⟨_, rfl⟩
 have M1 : Aside0 (RdAt 112 w0 (W.alloc (.cells #[.int .i64 0, .int .u64 0, .string (⟨#[]⟩ : ByteArray)] 100)) (Hold.box g2 #[.int .i64 0, .int .u64 0, .string (⟨#[]⟩ : ByteArray)] 100 :: H) gr s a bad) := ⟨(Mem.allocAt M hg2 _ _).swap2⟩
 have HC := Aside0.mk (cOneS s a bad hs ha); have hr := rel_one s a bad; have hi := stO_in s ha bad
 clear M
 have HA := Aside0.mk hr; have HI := Aside0.mk hi; clear hr hi
 generalize stO s a bad = r at HA HI HC
 obtain ⟨k, a1, b1⟩ := r
 simp only at HA HI HC
 have ha1 := HI.out.2; have hk := HI.out.1
 go_enter Try.func84, Try.ntmps84
 go_upto_region 1 with fail
 rw [← hg2]
 generalize W.alloc (.cells #[.int .i64 0, .int .u64 0, .string (⟨#[]⟩ : ByteArray)] 100) = W1 at M1 ⊢
 clear hg2
 go_wp2_with fail
 refine (HC.out w0 _ _ gr M1.out).mono ?_
 rintro e w1 ⟨rfl, h⟩
 have h : Mem w0 w1 (Hold.box gr #[.string s, .int .i64 (a1 : Int), .bool b1] 112 :: Hold.box g2 #[.int .i64 0, .int .u64 0, .string (⟨#[]⟩ : ByteArray)] 100 :: H) := h
 obtain ⟨g3, hg3⟩ : ∃ g3, g3 = w1.heap.size := ⟨_, rfl⟩
 have M3 := Aside0.mk (h.allocAt hg3 #[.int .i64 k, .int .u64 0, .string (⟨#[]⟩ : ByteArray)] 100).swap2
 clear h M1 HC
 go_upto_region 2 with fail
 rw [← hg3]
 generalize w1.alloc (.cells #[.int .i64 k, .int .u64 0, .string (⟨#[]⟩ : ByteArray)] 100) = W3 at M3 ⊢
 clear hg3
 have z3 := M3.out.box (.tail _ (.head _))
 have cst : ∀ y : Int, wrap64 y = wrap64 y := fun _ => rfl
 clear cst
 by_cases k1 : k = 1
 ·subst k1
  have HT := Aside0.mk (cTakeS s a1 b1 8 (by omega) hs ha1)
  have HTF := Aside0.mk (show ((stT s a1 b1 8).2.2 = false → b1 = false ∧ a1 + 8 ≤ s.size ∧ (stT s a1 b1 8).1 = s.extract a1 (a1 + 8) ∧ (stT s a1 b1 8).2.1 = a1 + 8) ∧ ((stT s a1 b1 8).2.2 = true → (stT s a1 b1 8).1 = ⟨#[]⟩ ∧ (stT s a1 b1 8).2.1 ≤ s.size ∧ (b1 = true ∨ s.size < a1 + 8)) from by
   unfold stT
   cases b1
   ·rw [if_neg (show ¬ false = true by decide)]
    by_cases h : ((8 : Nat) : Int) > (s.size : Int) - (a1 : Int)
    ·rw [if_pos h]
     exact ⟨fun e => (by cases e), fun _ => ⟨rfl, ha1, .inr (by omega)⟩⟩
    ·rw [if_neg h]
     exact ⟨fun _ => ⟨rfl, by omega, rfl, rfl⟩, fun e => (by cases e)⟩
   ·rw [if_pos rfl]
    exact ⟨fun e => (by cases e), fun _ => ⟨rfl, ha1, .inl rfl⟩⟩)
  generalize stT s a1 b1 8 = r at HT HTF
  obtain ⟨t, a2, b2⟩ := r
  simp only at HT HTF
  have ht8 : t.size ≤ 8 := by
   cases b2
   ·have h := HTF.out.1 rfl
    rw [h.2.2.1, ByteArray.size_extract]
    omega
   ·rw [(HTF.out.2 rfl).1]
    exact Nat.zero_le _
  go_upto_region 3 with fail
  go_wp2_with fail
  refine (HT.out w0 _ _ gr M3.out).mono ?_
  rintro e w2 ⟨rfl, h⟩
  have M4 : Aside0 (Mem w0 w2 (Hold.box gr #[.string s, .int .i64 (a2 : Int), .bool b2] 112 :: Hold.box g3 #[.int .i64 1, .int .u64 0, .string (⟨#[]⟩ : ByteArray)] 100 :: Hold.box g2 #[.int .i64 0, .int .u64 0, .string (⟨#[]⟩ : ByteArray)] 100 :: H)) := ⟨h⟩
  clear h M3 HT z3
  go_upto_region 5 with fail
  go_loopw [5] (fun v wx => ∃ j : Nat, v = .int .i64 j ∧ j ≤ t.size ∧ Aside0 (Mem w0 wx (Hold.box gr #[.string s, .int .i64 (a2 : Int), .bool b2] 112 :: Hold.box g3 #[.int .i64 1, .int .u64 (num8 t 0 j), .string (⟨#[]⟩ : ByteArray)] 100 :: Hold.box g2 #[.int .i64 0, .int .u64 0, .string (⟨#[]⟩ : ByteArray)] 100 :: H))) (fun v _ => t.size - (intOf v).toNat)
  case atStart => exact ⟨0, rfl, by omega, M4⟩
  case round =>
  clear M4
  obtain ⟨j, rfl, hj, M4⟩ := hrel
  have hn8 := num8_in t 0 j
  have hp : (256 : Int) ^ j ≤ 18446744073709551616 ∧ (j < 8 → (256 : Int) ^ j ≤ 72057594037927936) := by
   have : j = 0 ∨ j = 1 ∨ j = 2 ∨ j = 3 ∨ j = 4 ∨ j = 5 ∨ j = 6 ∨ j = 7 ∨ j = 8 := by omega
   rcases this with rfl | rfl | rfl | rfl | rfl | rfl | rfl | rfl | rfl <;> decide
  by_cases hjt : j < t.size
  ·have hle : (j : Int) < (t.size : Int) := by omega
   have hj0 : (0 : Int) ≤ (j : Int) := by omega
   have hbt := bt_in t (j : Int)
   have hidx : ∀ h : j < t.size, ((t[j]'h).toNat : Int) = bt t (j : Int) := fun h => bt_at t (j : Int) h
   have hN := Aside0.mk (show num8 t 0 (j + 1) = num8 t 0 j * 256 + bt t (j : Int) from by rw [num8, Nat.zero_add])
   have hb : num8 t 0 j < 72057594037927936 := Int.lt_of_lt_of_le hn8.2 (hp.2 (by omega))
   have hn0 := hn8.1
   clear hp hn8
   generalize num8 t 0 j = n at hb hn0 hN M4
   generalize hn2e : num8 t 0 (j + 1) = n2 at hN
   have HN2 := Aside0.mk hn2e; clear hn2e
   generalize bt t (j : Int) = bj at hbt hidx hN
   have wm : IntKind.u64.wrap (n * 256) = n * 256 := u64_id (by omega) (by omega)
   have wc : IntKind.u64.wrap bj = bj := u64_id (by omega) (by omega)
   have wa : IntKind.u64.wrap (n * 256 + bj) = n * 256 + bj := u64_id (by omega) (by omega)
   have wmm : (n * 256) % 18446744073709551616 = n * 256 := by omega
   have wcm : bj % 18446744073709551616 = bj := by omega
   have wam : (n * 256 + bj) % 18446744073709551616 = n * 256 + bj := by omega
   go_upto_region 7 with fail
   refine sz 10 (fun W => W.cell? ⟨g3, 1, none⟩ = some (.int .u64 n) ∧ W.cell? ⟨g3, 1, none⟩ = some (.int .u64 n)) [9] rcS.tab7 rcS.bits7 ⟨(M4.out.drew.box (.tail _ (.head _)) 1).trans rfl, (M4.out.drew.box (.tail _ (.head _)) 1).trans rfl⟩ (fun HT_ HW_ hHeld => ?_)
   have MD := Aside0.mk M4.out.drew
   clear M4
   generalize hwd : World.drew _ = wd at MD hHeld ⊢
   clear hwd
   refine pz 0 20 ?_; refine pz 3 23 ?_; refine pz 4 24 ?_; refine pz 5 25 ?_; refine pz 6 26 ?_; refine tz 1 21 ?_; refine pz 2 22 ?_; refine pz 7 27 ?_; refine pz 8 28 ?_
   refine lz 9 none (fun K hK => ?_)
   have b0 := MD.out.box (.tail _ (.head _)); have b1 := MD.out.free (.tail _ (.head _))
   refine skip_ (w1 := ?_) (by rfl) rfl ?_ ?_
   rotate_left
   ·go_simp
    rfl
   clear b0 b1
   refine hK.out _ _ ?_; clear hK K
   refine dz ?_
   clear hHeld HT_ HW_
   have M6 : Aside0 (Mem w0 (wd.setCell ⟨g3, 1, none⟩ (.int .u64 (n * 256 + bj))) (Hold.box gr #[.string s, .int .i64 (a2 : Int), .bool b2] 112 :: Hold.box g3 #[.int .i64 1, .int .u64 (n * 256 + bj), .string (⟨#[]⟩ : ByteArray)] 100 :: Hold.box g2 #[.int .i64 0, .int .u64 0, .string (⟨#[]⟩ : ByteArray)] 100 :: H)) := ⟨Mem.set (A := [_]) MD.out 1 (.int .u64 (n * 256 + bj)) rfl⟩
   clear MD
   rw [← hN.out] at M6 ⊢
   go_wp2
   go_roundw
   case measure => simp [intOf]; omega
   case rel => first | exact ⟨j + 1, by go_num, by omega, by rw [HN2.out]; exact M6⟩ | ((repeat apply Exists.intro); exact ⟨⟨j + 1, by go_num, by omega, by rw [HN2.out]; exact M6⟩, rfl⟩)
  have hle : ¬ (j : Int) < (t.size : Int) := by omega
  obtain rfl : j = t.size := by omega
  have hnr : 0 ≤ num8 t 0 t.size ∧ num8 t 0 t.size < 18446744073709551616 := ⟨hn8.1, Int.lt_of_lt_of_le hn8.2 hp.1⟩
  have hn := Aside0.mk (rfl : num8 t 0 t.size = num8 t 0 t.size)
  obtain ⟨n, hne⟩ : ∃ n, n = num8 t 0 t.size := ⟨_, rfl⟩
  rw [← hne] at M4 hnr
  have HNE := Aside0.mk hne
  have ha2 : a2 ≤ s.size := by
   cases b2
   ·have h := HTF.out.1 rfl
    omega
   ·exact (HTF.out.2 rfl).2.1
  clear hne hn hn8 hp hjt hle hj
  have z3 := M4.out.box (.tail _ (.head _)); have z2 := M4.out.box (.tail _ (.tail _ (.head _))); have f2 := M4.out.free (.tail _ (.tail _ (.head _)))
  have M9 : Aside0 (Mem w0 (((wr.setCell ⟨g2, 0, none⟩ (.int .i64 1)).setCell ⟨g2, 1, none⟩ (.int .u64 n)).setCell ⟨g2, 2, none⟩ (.string (⟨#[]⟩ : ByteArray))) (Hold.box gr #[.string s, .int .i64 (a2 : Int), .bool b2] 112 :: Hold.box g3 #[.int .i64 1, .int .u64 n, .string (⟨#[]⟩ : ByteArray)] 100 :: Hold.box g2 #[.int .i64 1, .int .u64 n, .string (⟨#[]⟩ : ByteArray)] 100 :: H)) := ⟨Mem.set (A := [_, _]) (Mem.set (A := [_, _]) (Mem.set (A := [_, _]) M4.out 0 (.int .i64 1) rfl) 1 (.int .u64 n) rfl) 2 (.string (⟨#[]⟩ : ByteArray)) rfl⟩
  clear M4
  have HREL := Aside0.mk (show Rel No (pconst s) a bad (⟨1, n, (⟨#[]⟩ : ByteArray)⟩ : Const) a2 b2 from Rel.seq HA.out (by rw [if_pos rfl]; exact rel_eight s a1 b1 t a2 b2 n HNE.out HTF.out) (fun h => h.elim))
  go_wp2
  refine bodyPost_ret (results_cell_row rfl _ _ g2 100 #[.int .i64 1, .int .u64 n, .string (⟨#[]⟩ : ByteArray)] (0, 0) _ rfl (M9.out.blk (.tail _ (.tail _ (.head _)))) hu1 rfl (by kernel_rfl)) rfl ?_
  exact ⟨⟨1, n, (⟨#[]⟩ : ByteArray)⟩, a2, b2, rfl, (M9.out.mid (A := [_])).mid (A := [_]), ha2, hnr, HREL.out⟩
 by_cases k2 : k = 2
 ·subst k2
  have HV := Aside0.mk (cVarAtS s a1 b1 hs ha1); have hv := rel_var s a1 b1; have hvi := stV_in s ha1 b1
  have HVR := Aside0.mk hv; clear hv
  generalize stV s a1 b1 = r at HV HVR hvi
  obtain ⟨n, a2, b2⟩ := r
  simp only at HV HVR hvi
  obtain ⟨m, rfl⟩ := Int.eq_ofNat_of_zero_le hvi.1.1
  have hm : m ≤ 1000000000 := by have := hvi.1.2; omega
  have ha2 := hvi.2
  have HT := Aside0.mk (cTakeS s a2 b2 m hm hs ha2); have HTR := Aside0.mk (rel_take s a2 b2 m); have ha3 := stT_in s ha2 b2 m
  generalize stT s a2 b2 m = r at HT HTR ha3
  obtain ⟨t, a3, b3⟩ := r
  simp only at HT HTR ha3
  clear hvi
  go_upto_region 9 with fail
  go_wp2_with fail
  refine (HV.out w0 _ _ gr M3.out).mono ?_
  rintro e w2 ⟨rfl, h⟩
  have M4 := Aside0.mk h
  clear h M3 HV z3
  go_wp2_with fail
  refine (HT.out w0 _ _ gr M4.out).mono ?_
  rintro e w3 ⟨rfl, h⟩
  have M5 : Aside0 (Mem w0 w3 (Hold.box gr #[.string s, .int .i64 (a3 : Int), .bool b3] 112 :: Hold.box g3 #[.int .i64 2, .int .u64 0, .string (⟨#[]⟩ : ByteArray)] 100 :: Hold.box g2 #[.int .i64 0, .int .u64 0, .string (⟨#[]⟩ : ByteArray)] 100 :: H)) := ⟨h⟩
  clear h M4 HT
  have z3 := M5.out.box (.tail _ (.head _)); have f3 := M5.out.free (.tail _ (.head _))
  have M6 : Aside0 (Mem w0 (w3.setCell ⟨g3, 2, none⟩ (.string t)) (Hold.box gr #[.string s, .int .i64 (a3 : Int), .bool b3] 112 :: Hold.box g3 #[.int .i64 2, .int .u64 0, .string t] 100 :: Hold.box g2 #[.int .i64 0, .int .u64 0, .string (⟨#[]⟩ : ByteArray)] 100 :: H)) := ⟨Mem.set (A := [_]) M5.out 2 (.string t) rfl⟩
  clear M5
  go_upto_region 10 with fail
  clear z3 f3
  generalize w3.setCell ⟨g3, 2, none⟩ (.string t) = W6 at M6 ⊢
  have z3 := M6.out.box (.tail _ (.head _)); have z2 := M6.out.box (.tail _ (.tail _ (.head _))); have f2 := M6.out.free (.tail _ (.tail _ (.head _)))
  have M9 : Aside0 (Mem w0 (((W6.setCell ⟨g2, 0, none⟩ (.int .i64 2)).setCell ⟨g2, 1, none⟩ (.int .u64 0)).setCell ⟨g2, 2, none⟩ (.string t)) (Hold.box gr #[.string s, .int .i64 (a3 : Int), .bool b3] 112 :: Hold.box g3 #[.int .i64 2, .int .u64 0, .string t] 100 :: Hold.box g2 #[.int .i64 2, .int .u64 0, .string t] 100 :: H)) := ⟨Mem.set (A := [_, _]) (Mem.set (A := [_, _]) (Mem.set (A := [_, _]) M6.out 0 (.int .i64 2) rfl) 1 (.int .u64 0) rfl) 2 (.string t) rfl⟩
  clear M6
  have HREL := Aside0.mk (show Rel No (pconst s) a bad (⟨2, 0, t⟩ : Const) a3 b3 from Rel.seq HA.out (by rw [if_neg (by decide), if_pos rfl]; exact Rel.seq HVR.out HTR.out (fun h => h.elim)) (fun h => h.elim))
  go_wp2
  refine bodyPost_ret (results_cell_row rfl _ _ g2 100 #[.int .i64 2, .int .u64 0, .string t] (0, 0) _ rfl (M9.out.blk (.tail _ (.tail _ (.head _)))) hu1 rfl (by kernel_rfl)) rfl ?_
  exact ⟨⟨2, 0, t⟩, a3, b3, rfl, (M9.out.mid (A := [_])).mid (A := [_]), ha3, ⟨Int.le_refl (0 : Int), (by decide : (0 : Int) < 18446744073709551616)⟩, HREL.out⟩
 have q1 : (k == 1) = false := by simp [k1]
 have q2 : (k == 2) = false := by simp [k2]
 have HR := Aside0.mk (show Rel No (pconst s) a bad (⟨k, 0, ⟨#[]⟩⟩ : Const) a1 b1 from Rel.seq HA.out (by rw [if_neg k1, if_neg k2]; exact rel_ret _ _ _ _) (fun h => h.elim))
 clear k1 k2 z3
 have z3 := M3.out.box (.tail _ (.head _)); have z2 := M3.out.box (.tail _ (.tail _ (.head _))); have f2 := M3.out.free (.tail _ (.tail _ (.head _)))
 have M9 : Aside0 (Mem w0 (((W3.setCell ⟨g2, 0, none⟩ (.int .i64 k)).setCell ⟨g2, 1, none⟩ (.int .u64 0)).setCell ⟨g2, 2, none⟩ (.string (⟨#[]⟩ : ByteArray))) (Hold.box gr #[.string s, .int .i64 (a1 : Int), .bool b1] 112 :: Hold.box g3 #[.int .i64 k, .int .u64 0, .string (⟨#[]⟩ : ByteArray)] 100 :: Hold.box g2 #[.int .i64 k, .int .u64 0, .string (⟨#[]⟩ : ByteArray)] 100 :: H)) := ⟨Mem.set (A := [_, _]) (Mem.set (A := [_, _]) (Mem.set (A := [_, _]) M3.out 0 (.int .i64 k) rfl) 1 (.int .u64 0) rfl) 2 (.string (⟨#[]⟩ : ByteArray)) rfl⟩
 clear M3
 have HREL := Aside0.mk (show Rel No (pconst s) a bad (⟨k, 0, (⟨#[]⟩ : ByteArray)⟩ : Const) a1 b1 from HR.out)
 go_wp2
 refine bodyPost_ret (results_cell_row rfl _ _ g2 100 #[.int .i64 k, .int .u64 0, .string (⟨#[]⟩ : ByteArray)] (0, 0) _ rfl (M9.out.blk (.tail _ (.tail _ (.head _)))) hu1 rfl (by kernel_rfl)) rfl ?_
 exact ⟨⟨k, 0, (⟨#[]⟩ : ByteArray)⟩, a1, b1, rfl, (M9.out.mid (A := [_])).mid (A := [_]), ha1, ⟨Int.le_refl (0 : Int), (by decide : (0 : Int) < 18446744073709551616)⟩, HREL.out⟩
def rsR (s : ByteArray) (a : Nat) : ByteArray × Int × Bool := match pvar s a with
 | some (n, b) => if n ≤ (s.size : Int) - (b : Int) then (s.extract b (b + n.toNat), ((b + n.toNat : Nat) : Int), true) else (⟨#[]⟩, 0, false)
 | none => (⟨#[]⟩, 0, false)
theorem short_f (s : ByteArray) (a : Nat) (hs : s.size ≤ 12000) (ha : a ≤ s.size) : Go.Proofs.Ytcbaokflimdjnaa.QFnExactReadImage.impl_ReadShort.f 20 s (a : Int) = some (rsR s a) := by
 have h : Go.Proofs.Ytcbaokflimdjnaa.QFnExactReadImage.impl_ReadVar.f 20 s (a : Int) = some (rvR (pvar s a)) := by
  unfold Go.Proofs.Ytcbaokflimdjnaa.QFnExactReadImage.impl_ReadVar.f Go.Proofs.Ytcbaokflimdjnaa.QFnExactReadImage.impl_within.f
  rw [if_pos (show (a : Int) ≥ 0 by omega)]
  show (if decide ((a : Int) ≤ (s.size : Int)) = true then _ else _) = _
  rw [if_pos (by simpa using ha)]
  exact impl_rv s a (by omega) ha 5 0 20 (by omega) (by omega) (by omega) (fun c hc => by cases hc)
 unfold Go.Proofs.Ytcbaokflimdjnaa.QFnExactReadImage.impl_ReadShort.f rsR
 rw [h, Option.bind_some]
 cases hp : pvar s a with
 | none =>
  rw [show rvR (none : Option (Int × Nat)) = (0, 0, false) from rfl]
  exact if_neg (show ¬ false = true by decide)
 | some x =>
  obtain ⟨n, b⟩ := x
  have hin := pvar_in hp
  rw [show rvR (some (n, b)) = (n, (b : Int), true) from rfl]
  dsimp only
  rw [if_pos rfl]
  have w1 : wrap64 ((s.size : Int) - (b : Int)) = (s.size : Int) - (b : Int) := wrap64_id (by omega) (by omega)
  by_cases h1 : n > 12000
  ·rw [if_pos h1, if_neg (by omega)]
  ·rw [if_neg h1, w1]
   by_cases h2 : n > (s.size : Int) - (b : Int)
   ·rw [if_pos h2, if_neg (by omega)]
   ·have w2 : wrap64 ((b : Int) + n) = (b : Int) + n := wrap64_id (by omega) (by omega)
    rw [if_neg h2, if_pos (by omega), w2, if_pos (by omega), if_pos (by omega), if_pos (by omega), Int.toNat_natCast, show ((b : Int) + n).toNat = b + n.toNat by omega, show ((b : Int) + n) = ((b + n.toNat : Nat) : Int) by omega]
theorem cShortI (s : ByteArray) (a : Nat) (hs : s.size ≤ 12000) (ha : a ≤ s.size) (w : World) : Calls Try.prog 127 #[.string s, .int .i64 (a : Int)] w fun e w' => e = .returned (.tuple #[.string (rsR s a).1, .int .i64 (rsR s a).2.1, .bool (rsR s a).2.2]) ∧ Below w.heap.size w w' :=
 Calls.mono (Go.Proofs.Ytcbaokflimdjnaa.QFnExactReadImage.impl_ReadShort.calls 20 s a _ _ _ w (short_f s a hs ha)) fun _ _ h => ⟨h.1, h.2.below⟩
theorem rel_short (s : ByteArray) (a : Nat) (ha : a ≤ s.size) : (∀ (t : ByteArray) (b : Int), rsR s a = (t, b, true) → ∃ n : Nat, b = n ∧ n ≤ s.size ∧ pseq (pvar s) (pc2 s) a = some (⟨2, 0, t⟩, n)) ∧ ((rsR s a).2.2 = false → pseq (pvar s) (pc2 s) a = none) := by
 unfold rsR pseq pc2
 cases hp : pvar s a with
 | none => exact ⟨fun t b h => (by cases h), fun _ => rfl⟩
 | some x =>
  obtain ⟨n, c⟩ := x
  have hin := pvar_in hp
  simp only
  by_cases h : n ≤ (s.size : Int) - (c : Int)
  ·rw [if_pos h, if_pos h]
   refine ⟨fun t b e => ?_, fun e => (by cases e)⟩
   injection e with e1 e2
   injection e2 with e2 _
   subst e1
   exact ⟨c + n.toNat, e2.symm, by omega, rfl⟩
  ·rw [if_neg h, if_neg h]
   exact ⟨fun t b e => (by cases e), fun _ => rfl⟩
theorem or_byte (n b : Int) (j : Nat) (hj : j < 8) (h0 : 0 ≤ n) (h1 : n < 256 ^ j) (hb : 0 ≤ b) (hb1 : b < 256) : Go.bits .or .u64 (IntKind.u64.wrap (n * 256)) b = n * 256 + b := by
 have hp : (256 : Int) ^ j ≤ 72057594037927936 := by
  have : j = 0 ∨ j = 1 ∨ j = 2 ∨ j = 3 ∨ j = 4 ∨ j = 5 ∨ j = 6 ∨ j = 7 := by omega
  rcases this with rfl | rfl | rfl | rfl | rfl | rfl | rfl | rfl <;> decide
 have hn : n < 72057594037927936 := Int.lt_of_lt_of_le h1 hp
 clear h1 hp
 rw [u64_id (by omega) (by omega)]
 exact bits_join .u64 64 (by decide) (fun x hx0 hx1 => u64_id hx0 hx1) 8 (n * 256) b (by omega) (by omega) (by omega) hb (by omega) (by omega)
theorem rel_eightI (s : ByteArray) (a1 : Nat) (b1 : Bool) (a2 : Nat) (b2 : Bool) (n : Int) (h : (b2 = false → b1 = false ∧ a2 = a1 + 8 ∧ n = num8 s a1 8) ∧ (b2 = true → b1 = true ∨ s.size < a1 + 8)) (ha : a2 ≤ s.size) : Rel No (pc1 s) a1 b1 (⟨1, n, ⟨#[]⟩⟩ : Const) a2 b2 := by
 unfold Rel pc1
 cases b1
 ·rw [if_neg (show ¬ false = true by decide)]
  by_cases h8 : a1 + 8 ≤ s.size
  ·rw [if_pos h8]
   cases b2
   ·obtain ⟨_, rfl, rfl⟩ := h.1 rfl
    exact ⟨rfl, rfl, rfl⟩
   ·rcases h.2 rfl with e | e
    ·cases e
    ·omega
  ·rw [if_neg h8]
   cases b2
   ·have := (h.1 rfl).2.1
    omega
   ·exact .inl rfl
 ·rw [if_pos rfl]
  cases b2
  ·exact absurd (h.1 rfl).1 (by decide)
  ·rfl
def rcI.T10 : Bool × List (List Nat × List Nat) := (true, [([], []), ([0], [0]), ([1], [1]), ([2], [2]), ([], []), ([4], [4]), ([5], [5]), ([6], [6]), ([3, 7], [3, 7]), ([8], [8]), ([9], [9]), ([9], [9]), ([9], [9]), ([10, 8, 0, 1, 2, 3, 4, 5, 6, 7, 8, 9, 10], [10]), ([11, 13, 0, 1, 2, 3, 4, 5, 6, 7, 8, 9, 10, 11, 13], [11]), ([12, 14, 0, 1, 2, 3, 4, 5, 6, 7, 8, 9, 10, 11, 12, 13, 14], [12])])
def rcI.B10 : List Nat := [0, 1, 3, 7, 0, 16, 48, 112, 255, 511, 1023, 1023, 1023, 2047, 12287, 32767]
theorem rcI.tab10 : rtab .any (opsOf Try.f89 10) = rcI.T10 := by kernel_rfl
theorem rcI.bits10 : waitsOk rcI.T10.2 rcI.B10 = true := by kernel_rfl
set_option maxHeartbeats 4000000 in
set_option maxRecDepth 100000 in
theorem cConstI (s : ByteArray) (a : Nat) (bad : Bool) (hs : s.size ≤ 12000) (ha : a ≤ s.size) (w0 W : World) (H : List Hold) (gr : Nat) (M : RdAt 120 w0 W H gr s a bad) :
  Calls Try.prog 89 #[.pointer (some ⟨gr, 0, none⟩)] W fun e w' => CPost 120 w0 H gr s a bad e w' := by
 have hu := Try.underlying120; have hu1 := Try.underlying100; have hu2 := Try.underlying3; have hu3 := Try.underlying98; have hu4 := Try.underlying9
 obtain ⟨g2, hg2⟩ : ∃ g2, g2 = W.heap.size := ⟨_, rfl⟩
 have M1 : Aside0 (RdAt 120 w0 (W.alloc (.cells #[.int .i64 0, .int .u64 0, .string (⟨#[]⟩ : ByteArray)] 100)) (Hold.box g2 #[.int .i64 0, .int .u64 0, .string (⟨#[]⟩ : ByteArray)] 100 :: H) gr s a bad) := ⟨(Mem.allocAt M hg2 _ _).swap2⟩
 have HC := Aside0.mk (cOneI s a bad hs ha); have hr := rel_one s a bad; have hi := stO_in s ha bad
 clear M
 have HA := Aside0.mk hr; have HI := Aside0.mk hi; clear hr hi
 generalize stO s a bad = r at HA HI HC
 obtain ⟨k, a1, b1⟩ := r
 simp only at HA HI HC
 have ha1 := HI.out.2; have hk := HI.out.1
 go_enter Try.func89, Try.ntmps89
 go_upto_region 1 with fail
 rw [← hg2]
 generalize W.alloc (.cells #[.int .i64 0, .int .u64 0, .string (⟨#[]⟩ : ByteArray)] 100) = W1 at M1 ⊢
 clear hg2
 go_wp2_with fail
 refine (HC.out w0 _ _ gr M1.out).mono ?_
 rintro e w1 ⟨rfl, h⟩
 have h : Mem w0 w1 (Hold.box gr #[.string s, .int .i64 (a1 : Int), .bool b1] 120 :: Hold.box g2 #[.int .i64 0, .int .u64 0, .string (⟨#[]⟩ : ByteArray)] 100 :: H) := h
 obtain ⟨g3, hg3⟩ : ∃ g3, g3 = w1.heap.size := ⟨_, rfl⟩
 have M3 := Aside0.mk (h.allocAt hg3 #[.int .i64 k, .int .u64 0, .string (⟨#[]⟩ : ByteArray)] 100).swap2
 clear h M1 HC
 go_upto_region 2 with fail
 rw [← hg3]
 generalize w1.alloc (.cells #[.int .i64 k, .int .u64 0, .string (⟨#[]⟩ : ByteArray)] 100) = W3 at M3 ⊢
 clear hg3
 have z3 := M3.out.box (.tail _ (.head _))
 by_cases k1 : k = 1
 ·subst k1
  go_upto_region 5 with fail
  go_loopw [4, 15] (fun u v wx => ∃ (j : Nat) (n : Int) (a2 : Nat) (b2 : Bool), v = .int .i64 j ∧ j ≤ 8 ∧ (0 ≤ n ∧ n < 18446744073709551616) ∧ a2 ≤ s.size ∧ Aside0 ((b2 = false → b1 = false ∧ a2 = a1 + j ∧ n = num8 s a1 j) ∧ (b2 = true → b1 = true ∨ s.size < a1 + 8)) ∧ Aside0 (Mem w0 wx (Hold.box gr #[.string s, .int .i64 (a2 : Int), .bool b2] 120 :: Hold.box g3 #[.int .i64 1, .int .u64 n, .string (⟨#[]⟩ : ByteArray)] 100 :: Hold.box g2 #[.int .i64 0, .int .u64 0, .string (⟨#[]⟩ : ByteArray)] 100 :: H))) (fun _ v _ => 8 - (intOf v).toNat)
  case atStart => exact ⟨0, 0, a1, b1, rfl, by omega, ⟨by omega, by omega⟩, ha1, ⟨fun h => ⟨h, rfl, rfl⟩, fun h => .inl h⟩, M3⟩
  case round =>
  clear M3
  obtain ⟨j, n, a2, b2, rfl, hj, hnr, ha2, HJ, M4⟩ := hrel
  by_cases hjt : j < 8
  ·have hle : (j : Int) < 8 := by omega
   have HO := Aside0.mk (cOneI s a2 b2 hs ha2); have hi2 := stO_in s ha2 b2
   have HF := Aside0.mk (show ((stO s a2 b2).2.2 = false → b2 = false ∧ a2 < s.size ∧ (stO s a2 b2).1 = bt s (a2 : Int) ∧ (stO s a2 b2).2.1 = a2 + 1) ∧ ((stO s a2 b2).2.2 = true → b2 = true ∨ s.size ≤ a2) from by
    unfold stO pone
    cases b2
    ·rw [if_neg (show ¬ false = true by decide)]
     by_cases h : a2 < s.size
     ·rw [if_pos h]
      exact ⟨fun _ => ⟨rfl, h, rfl, rfl⟩, fun e => (by cases e)⟩
     ·rw [if_neg h]
      exact ⟨fun e => (by cases e), fun _ => .inr (by omega)⟩
    ·rw [if_pos rfl]
     exact ⟨fun e => (by cases e), fun _ => .inl rfl⟩)
   generalize stO s a2 b2 = r at HO HF hi2
   obtain ⟨bj, a3, b3⟩ := r
   simp only at HO HF hi2
   have hbj := hi2.1; have ha3 := hi2.2
   go_upto_region 6 with fail
   go_wp2_with fail
   refine (HO.out w0 _ _ gr M4.out).mono ?_
   rintro e w2 ⟨rfl, h⟩
   have M5 : Aside0 (Mem w0 w2 (Hold.box gr #[.string s, .int .i64 (a3 : Int), .bool b3] 120 :: Hold.box g3 #[.int .i64 1, .int .u64 n, .string (⟨#[]⟩ : ByteArray)] 100 :: Hold.box g2 #[.int .i64 0, .int .u64 0, .string (⟨#[]⟩ : ByteArray)] 100 :: H)) := ⟨h⟩
   clear h M4 HO
   have z3 := M5.out.box (.tail _ (.head _)); have f3 := M5.out.free (.tail _ (.head _))
   have wc : IntKind.u64.wrap bj = bj := u64_id (by omega) (by omega)
   have wcm : bj % 18446744073709551616 = bj := by omega
   obtain ⟨n2, hn2⟩ : ∃ n2, n2 = Go.bits .or .u64 (IntKind.u64.wrap (n * 256)) bj := ⟨_, rfl⟩
   have hn2r : 0 ≤ n2 ∧ n2 < 18446744073709551616 := by
    have h1 := bits_lo_u64 .or (IntKind.u64.wrap (n * 256)) bj
    have h2 := bits_hi_u64 .or (IntKind.u64.wrap (n * 256)) bj
    rw [hn2]
    omega
   have HN2 := Aside0.mk hn2; clear hn2
   have M6 : Aside0 (Mem w0 (w2.setCell ⟨g3, 1, none⟩ (.int .u64 n2)) (Hold.box gr #[.string s, .int .i64 (a3 : Int), .bool b3] 120 :: Hold.box g3 #[.int .i64 1, .int .u64 n2, .string (⟨#[]⟩ : ByteArray)] 100 :: Hold.box g2 #[.int .i64 0, .int .u64 0, .string (⟨#[]⟩ : ByteArray)] 100 :: H)) := ⟨Mem.set (A := [_]) M5.out 1 (.int .u64 n2) rfl⟩
   clear M5
   go_upto_region 8 with fail
   rw [← HN2.out]
   clear z3 f3
   generalize w2.setCell ⟨g3, 1, none⟩ (.int .u64 n2) = W6 at M6 ⊢
   have HJ2 := Aside0.mk (show (b3 = false → b1 = false ∧ a3 = a1 + (j + 1) ∧ n2 = num8 s a1 (j + 1)) ∧ (b3 = true → b1 = true ∨ s.size < a1 + 8) from by
    refine ⟨fun e => ?_, fun e => ?_⟩
    ·obtain ⟨h1, h2, h3, h4⟩ := HF.out.1 e
     obtain ⟨g1, e2, g3⟩ := HJ.out.1 h1
     refine ⟨g1, by omega, ?_⟩
     rw [HN2.out, num8, ← g3, ← e2, ← h3]
     have hn := num8_in s a1 j
     rw [← g3] at hn
     exact or_byte n bj j hjt hn.1 hn.2 hbj.1 hbj.2
    ·rcases HF.out.2 e with h | h
     ·exact HJ.out.2 h
     ·cases hb : b2 with
      | true => exact HJ.out.2 hb
      | false =>
       have := (HJ.out.1 hb).2.1
       omega)
   go_wp2
   go_roundw
   case measure => simp [intOf]; omega
   case rel => first | exact ⟨j + 1, n2, a3, b3, by go_num, by omega, hn2r, ha3, HJ2, M6⟩ | ((repeat apply Exists.intro); exact ⟨⟨j + 1, n2, a3, b3, by go_num, by omega, hn2r, ha3, HJ2, M6⟩, rfl⟩)
  have hle : ¬ (j : Int) < 8 := by omega
  obtain rfl : j = 8 := by omega
  have z3 := M4.out.box (.tail _ (.head _))
  have HR := Aside0.mk (show Rel No (pconst s) a bad (⟨1, n, ⟨#[]⟩⟩ : Const) a2 b2 from Rel.seq HA.out (by rw [if_pos rfl]; exact rel_eightI s a1 b1 a2 b2 n HJ.out ha2) (fun h => h.elim))
  clear hj hjt HJ
  have z3 := M4.out.box (.tail _ (.head _)); have z2 := M4.out.box (.tail _ (.tail _ (.head _))); have f2 := M4.out.free (.tail _ (.tail _ (.head _)))
  have M9 : Aside0 (Mem w0 (((wr.setCell ⟨g2, 0, none⟩ (.int .i64 1)).setCell ⟨g2, 1, none⟩ (.int .u64 n)).setCell ⟨g2, 2, none⟩ (.string (⟨#[]⟩ : ByteArray))) (Hold.box gr #[.string s, .int .i64 (a2 : Int), .bool b2] 120 :: Hold.box g3 #[.int .i64 1, .int .u64 n, .string (⟨#[]⟩ : ByteArray)] 100 :: Hold.box g2 #[.int .i64 1, .int .u64 n, .string (⟨#[]⟩ : ByteArray)] 100 :: H)) := ⟨Mem.set (A := [_, _]) (Mem.set (A := [_, _]) (Mem.set (A := [_, _]) M4.out 0 (.int .i64 1) rfl) 1 (.int .u64 n) rfl) 2 (.string (⟨#[]⟩ : ByteArray)) rfl⟩
  clear M4
  have HREL := Aside0.mk (show Rel No (pconst s) a bad (⟨1, n, (⟨#[]⟩ : ByteArray)⟩ : Const) a2 b2 from HR.out)
  go_wp2
  refine bodyPost_ret (results_cell_row rfl _ _ g2 100 #[.int .i64 1, .int .u64 n, .string (⟨#[]⟩ : ByteArray)] (0, 0) _ rfl (M9.out.blk (.tail _ (.tail _ (.head _)))) hu1 rfl (by kernel_rfl)) rfl ?_
  exact ⟨⟨1, n, (⟨#[]⟩ : ByteArray)⟩, a2, b2, rfl, (M9.out.mid (A := [_])).mid (A := [_]), ha2, hnr, HREL.out⟩
 by_cases k2 : k = 2
 rotate_left
 ·have q1 : (k == 1) = false := by simp [k1]
  have q2 : (k == 2) = false := by simp [k2]
  have HR := Aside0.mk (show Rel No (pconst s) a bad (⟨k, 0, ⟨#[]⟩⟩ : Const) a1 b1 from Rel.seq HA.out (by rw [if_neg k1, if_neg k2]; exact rel_ret _ _ _ _) (fun h => h.elim))
  clear k1 k2 z3
  have z3 := M3.out.box (.tail _ (.head _)); have z2 := M3.out.box (.tail _ (.tail _ (.head _))); have f2 := M3.out.free (.tail _ (.tail _ (.head _)))
  have M9 : Aside0 (Mem w0 (((W3.setCell ⟨g2, 0, none⟩ (.int .i64 k)).setCell ⟨g2, 1, none⟩ (.int .u64 0)).setCell ⟨g2, 2, none⟩ (.string (⟨#[]⟩ : ByteArray))) (Hold.box gr #[.string s, .int .i64 (a1 : Int), .bool b1] 120 :: Hold.box g3 #[.int .i64 k, .int .u64 0, .string (⟨#[]⟩ : ByteArray)] 100 :: Hold.box g2 #[.int .i64 k, .int .u64 0, .string (⟨#[]⟩ : ByteArray)] 100 :: H)) := ⟨Mem.set (A := [_, _]) (Mem.set (A := [_, _]) (Mem.set (A := [_, _]) M3.out 0 (.int .i64 k) rfl) 1 (.int .u64 0) rfl) 2 (.string (⟨#[]⟩ : ByteArray)) rfl⟩
  clear M3
  have HREL := Aside0.mk (show Rel No (pconst s) a bad (⟨k, 0, (⟨#[]⟩ : ByteArray)⟩ : Const) a1 b1 from HR.out)
  go_wp2
  refine bodyPost_ret (results_cell_row rfl _ _ g2 100 #[.int .i64 k, .int .u64 0, .string (⟨#[]⟩ : ByteArray)] (0, 0) _ rfl (M9.out.blk (.tail _ (.tail _ (.head _)))) hu1 rfl (by kernel_rfl)) rfl ?_
  exact ⟨⟨k, 0, (⟨#[]⟩ : ByteArray)⟩, a1, b1, rfl, (M9.out.mid (A := [_])).mid (A := [_]), ha1, ⟨Int.le_refl (0 : Int), (by decide : (0 : Int) < 18446744073709551616)⟩, HREL.out⟩
 subst k2
 clear k1
 have HS := Aside0.mk (cShortI s a1 hs ha1); have hsr := rel_short s a1 ha1
 generalize rsR s a1 = r at HS hsr
 obtain ⟨t, nx, ok⟩ := r
 have HSR := Aside0.mk hsr; clear hsr
 simp only at HS
 go_upto_region 10 with fail
 clear z3
 refine sz 16 (fun W => W.cell? ⟨gr, 0, none⟩ = some (.string s) ∧ W.cell? ⟨gr, 1, none⟩ = some (.int .i64 (a1 : Int))) [] rcI.tab10 rcI.bits10 ⟨(M3.out.drew.box (.head _) 0).trans rfl, (M3.out.drew.box (.head _) 1).trans rfl⟩ (fun HT_ HW_ hHeld => ?_)
 have MD := Aside0.mk M3.out.drew
 clear M3
 generalize hwd : World.drew _ = wd at MD hHeld ⊢
 clear hwd
 refine pz 0 30 ?_; refine pz 1 31 ?_; refine pz 2 32 ?_; refine pz 4 34 ?_; refine pz 5 35 ?_; refine pz 6 36 ?_; refine tz 3 33 ?_; refine tz 7 37 ?_
 refine ez 8 (some 38) (fun K hK => ?_)
 refine gz Try.func127 #[.string s, .int .i64 (a1 : Int)] ?_
 refine (HS.out _).mono ?_; rintro e w4 ⟨rfl, hb⟩
 have M4 := Aside0.mk (MD.out.step hb); clear hb
 refine ⟨_, rfl, ?_⟩
 refine hK.out _ _ ⟨(M4.out.box (.head _) 0).trans rfl, (M4.out.box (.head _) 1).trans rfl⟩ (fun hHeld => ?_); clear hK K; refine kz (some 38) ?_
 refine pz 9 29 ?_; refine pz 10 39 ?_; refine pz 11 40 ?_; refine pz 12 41 ?_; refine pz 13 5 ?_; refine pz 14 6 ?_; refine pz 15 7 ?_
 refine dz ?_
 clear hHeld HT_ HW_ MD HS
 have hb2 : b1 = true ∨ b1 = false ∧ ok = false ∨ b1 = false ∧ ok = true := by cases b1 <;> cases ok <;> simp
 rcases hb2 with rfl | ⟨rfl, rfl⟩ | ⟨rfl, rfl⟩
 ·have HR := Aside0.mk (show Rel No (pconst s) a bad (⟨2, 0, ⟨#[]⟩⟩ : Const) a1 true from Rel.seq HA.out (by unfold Rel; rw [if_pos rfl]) (fun h => h.elim))
  have z0 := M4.out.box (.head _); have f0 := M4.out.free (.head _); have z3 := M4.out.box (.tail _ (.head _))
  have M5 : Aside0 (Mem w0 (w4.setCell ⟨gr, 2, none⟩ (.bool true)) (Hold.box gr #[.string s, .int .i64 (a1 : Int), .bool true] 120 :: Hold.box g3 #[.int .i64 2, .int .u64 0, .string (⟨#[]⟩ : ByteArray)] 100 :: Hold.box g2 #[.int .i64 0, .int .u64 0, .string (⟨#[]⟩ : ByteArray)] 100 :: H)) := ⟨Mem.set (A := []) M4.out 2 (.bool true) rfl⟩
  clear M4
  go_upto_region 13 with fail
  clear z0 f0 z3
  generalize w4.setCell ⟨gr, 2, none⟩ (.bool true) = W5 at M5 ⊢
  have z3 := M5.out.box (.tail _ (.head _)); have z2 := M5.out.box (.tail _ (.tail _ (.head _))); have f2 := M5.out.free (.tail _ (.tail _ (.head _)))
  have M9 : Aside0 (Mem w0 (((W5.setCell ⟨g2, 0, none⟩ (.int .i64 2)).setCell ⟨g2, 1, none⟩ (.int .u64 0)).setCell ⟨g2, 2, none⟩ (.string (⟨#[]⟩ : ByteArray))) (Hold.box gr #[.string s, .int .i64 (a1 : Int), .bool true] 120 :: Hold.box g3 #[.int .i64 2, .int .u64 0, .string (⟨#[]⟩ : ByteArray)] 100 :: Hold.box g2 #[.int .i64 2, .int .u64 0, .string (⟨#[]⟩ : ByteArray)] 100 :: H)) := ⟨Mem.set (A := [_, _]) (Mem.set (A := [_, _]) (Mem.set (A := [_, _]) M5.out 0 (.int .i64 2) rfl) 1 (.int .u64 0) rfl) 2 (.string (⟨#[]⟩ : ByteArray)) rfl⟩
  clear M5
  have HREL := Aside0.mk (show Rel No (pconst s) a bad (⟨2, 0, (⟨#[]⟩ : ByteArray)⟩ : Const) a1 true from HR.out)
  go_wp2
  refine bodyPost_ret (results_cell_row rfl _ _ g2 100 #[.int .i64 2, .int .u64 0, .string (⟨#[]⟩ : ByteArray)] (0, 0) _ rfl (M9.out.blk (.tail _ (.tail _ (.head _)))) hu1 rfl (by kernel_rfl)) rfl ?_
  exact ⟨⟨2, 0, (⟨#[]⟩ : ByteArray)⟩, a1, true, rfl, (M9.out.mid (A := [_])).mid (A := [_]), ha1, ⟨Int.le_refl (0 : Int), (by decide : (0 : Int) < 18446744073709551616)⟩, HREL.out⟩
 ·have HR := Aside0.mk (show Rel No (pconst s) a bad (⟨2, 0, ⟨#[]⟩⟩ : Const) a1 true from Rel.seq HA.out (by
   rw [if_neg (by decide), if_pos rfl]
   unfold Rel
   rw [if_neg (by decide), HSR.out.2 rfl]
   exact .inl rfl) (fun h => h.elim))
  have z0 := M4.out.box (.head _); have f0 := M4.out.free (.head _); have z3 := M4.out.box (.tail _ (.head _))
  have M5 : Aside0 (Mem w0 (w4.setCell ⟨gr, 2, none⟩ (.bool true)) (Hold.box gr #[.string s, .int .i64 (a1 : Int), .bool true] 120 :: Hold.box g3 #[.int .i64 2, .int .u64 0, .string (⟨#[]⟩ : ByteArray)] 100 :: Hold.box g2 #[.int .i64 0, .int .u64 0, .string (⟨#[]⟩ : ByteArray)] 100 :: H)) := ⟨Mem.set (A := []) M4.out 2 (.bool true) rfl⟩
  clear M4
  go_upto_region 13 with fail
  clear z0 f0 z3
  generalize w4.setCell ⟨gr, 2, none⟩ (.bool true) = W5 at M5 ⊢
  have z3 := M5.out.box (.tail _ (.head _)); have z2 := M5.out.box (.tail _ (.tail _ (.head _))); have f2 := M5.out.free (.tail _ (.tail _ (.head _)))
  have M9 : Aside0 (Mem w0 (((W5.setCell ⟨g2, 0, none⟩ (.int .i64 2)).setCell ⟨g2, 1, none⟩ (.int .u64 0)).setCell ⟨g2, 2, none⟩ (.string (⟨#[]⟩ : ByteArray))) (Hold.box gr #[.string s, .int .i64 (a1 : Int), .bool true] 120 :: Hold.box g3 #[.int .i64 2, .int .u64 0, .string (⟨#[]⟩ : ByteArray)] 100 :: Hold.box g2 #[.int .i64 2, .int .u64 0, .string (⟨#[]⟩ : ByteArray)] 100 :: H)) := ⟨Mem.set (A := [_, _]) (Mem.set (A := [_, _]) (Mem.set (A := [_, _]) M5.out 0 (.int .i64 2) rfl) 1 (.int .u64 0) rfl) 2 (.string (⟨#[]⟩ : ByteArray)) rfl⟩
  clear M5
  have HREL := Aside0.mk (show Rel No (pconst s) a bad (⟨2, 0, (⟨#[]⟩ : ByteArray)⟩ : Const) a1 true from HR.out)
  go_wp2
  refine bodyPost_ret (results_cell_row rfl _ _ g2 100 #[.int .i64 2, .int .u64 0, .string (⟨#[]⟩ : ByteArray)] (0, 0) _ rfl (M9.out.blk (.tail _ (.tail _ (.head _)))) hu1 rfl (by kernel_rfl)) rfl ?_
  exact ⟨⟨2, 0, (⟨#[]⟩ : ByteArray)⟩, a1, true, rfl, (M9.out.mid (A := [_])).mid (A := [_]), ha1, ⟨Int.le_refl (0 : Int), (by decide : (0 : Int) < 18446744073709551616)⟩, HREL.out⟩
 ·obtain ⟨m, rfl, hms, hp⟩ := HSR.out.1 t nx rfl
  have HR := Aside0.mk (show Rel No (pconst s) a bad (⟨2, 0, t⟩ : Const) m false from Rel.seq HA.out (by
   rw [if_neg (by decide), if_pos rfl]
   unfold Rel
   rw [if_neg (by decide), hp]
   exact ⟨rfl, rfl, rfl⟩) (fun h => h.elim))
  clear hp HSR
  have z0 := M4.out.box (.head _); have f0 := M4.out.free (.head _); have z3 := M4.out.box (.tail _ (.head _)); have f3 := M4.out.free (.tail _ (.head _))
  have M5 : Aside0 (Mem w0 ((w4.setCell ⟨g3, 2, none⟩ (.string t)).setCell ⟨gr, 1, none⟩ (.int .i64 (m : Int))) (Hold.box gr #[.string s, .int .i64 (m : Int), .bool false] 120 :: Hold.box g3 #[.int .i64 2, .int .u64 0, .string t] 100 :: Hold.box g2 #[.int .i64 0, .int .u64 0, .string (⟨#[]⟩ : ByteArray)] 100 :: H)) := ⟨Mem.set (A := []) (Mem.set (A := [_]) M4.out 2 (.string t) rfl) 1 (.int .i64 (m : Int)) rfl⟩
  have hne : gr ≠ g3 := by
   have h := (List.pairwise_cons.1 M4.out.apart).1 _ (.head _)
   simp only [Hold.box] at h
   omega
  have hne2 : g3 ≠ gr := fun e => hne e.symm
  clear M4
  go_upto_region 16 with fail
  clear z0 f0 z3 f3
  generalize (w4.setCell ⟨g3, 2, none⟩ (.string t)).setCell ⟨gr, 1, none⟩ (.int .i64 (m : Int)) = W5 at M5 ⊢
  have z3 := M5.out.box (.tail _ (.head _)); have z2 := M5.out.box (.tail _ (.tail _ (.head _))); have f2 := M5.out.free (.tail _ (.tail _ (.head _)))
  have M9 : Aside0 (Mem w0 (((W5.setCell ⟨g2, 0, none⟩ (.int .i64 2)).setCell ⟨g2, 1, none⟩ (.int .u64 0)).setCell ⟨g2, 2, none⟩ (.string t)) (Hold.box gr #[.string s, .int .i64 (m : Int), .bool false] 120 :: Hold.box g3 #[.int .i64 2, .int .u64 0, .string t] 100 :: Hold.box g2 #[.int .i64 2, .int .u64 0, .string t] 100 :: H)) := ⟨Mem.set (A := [_, _]) (Mem.set (A := [_, _]) (Mem.set (A := [_, _]) M5.out 0 (.int .i64 2) rfl) 1 (.int .u64 0) rfl) 2 (.string t) rfl⟩
  clear M5
  have HREL := Aside0.mk (show Rel No (pconst s) a bad (⟨2, 0, t⟩ : Const) m false from HR.out)
  go_wp2
  refine bodyPost_ret (results_cell_row rfl _ _ g2 100 #[.int .i64 2, .int .u64 0, .string t] (0, 0) _ rfl (M9.out.blk (.tail _ (.tail _ (.head _)))) hu1 rfl (by kernel_rfl)) rfl ?_
  exact ⟨⟨2, 0, t⟩, m, false, rfl, (M9.out.mid (A := [_])).mid (A := [_]), hms, ⟨Int.le_refl (0 : Int), (by decide : (0 : Int) < 18446744073709551616)⟩, HREL.out⟩
end Go.Proofs.Ytcbaokflimdjnaa.Law
end
section
namespace Go.Proofs.Ytcbaokflimdjnaa.Law
open Go.RowKit Go.Proofs.YtcbaokflimdjnaaW.PrintWords Go.Proofs.YtcbaokflimdjnaaW.PrintLast Go.Proofs.Ytcbaokflimdjnaa.Steps Go.Proofs.YtcbaokflimdjnaaW.PrintMore Go.Proofs.Ytcbaokflimdjnaa.Num Go.Proofs.Ytcbaokflimdjnaa
def fdoom (f : Func) : Prop := (f.caps.length : Int) > 20 ∨ (f.code.length : Int) > 300 ∨ (f.handlers.length : Int) > 40
def FPost (T : TypeId) (w0 : World) (b : Nat) (H : List Hold) (gr : Nat) (s : ByteArray) (a : Nat) (bad : Bool) (e : Ending) (w' : World) : Prop :=
 ∃ (f : Func) (a' : Nat) (bad' : Bool) (hi : Nat) (ds : List Value), e = .returned (.agg ⟨ds⟩) ∧ Mem w0 w' (Hold.val kFuncI b hi f ds :: Hold.box gr #[.string s, .int .i64 (a' : Int), .bool bad'] T :: H) ∧ a' ≤ s.size ∧ Rel fdoom (pfunc s) a bad f a' bad'
theorem Rel.weak {α : Type} {D E : α → Prop} {p : Nat → Option (α × Nat)} {a : Nat} {bad : Bool} {v : α} {a' : Nat} {bad' : Bool} (h : Rel D p a bad v a' bad') (hD : ∀ x, D x → E x) : Rel E p a bad v a' bad' := by
 unfold Rel at h ⊢
 split at h
 ·rename_i hb
  rw [if_pos hb]
  exact h
 ·rename_i hb
  rw [if_neg hb]
  cases hp : p a with
  | none => rw [hp] at h; exact h.imp id (hD v)
  | some x => rw [hp] at h; exact h
theorem Mem.growAt {α : Type} {d : Kd α} {e : Nat} {w W w1 : World} {A B : List Hold} {lo hi : Nat} {l l1 : List α} {v v1 : Value} (h : Mem w W (A ++ Hold.val (Kd.slice e d) lo hi l [v] :: B)) (hH : ∀ x ∈ A ++ B, x.hi ≤ lo) (hb : Below lo W w1) (hr : d.R e w1 lo (fun k => lo ≤ k) v1 l1) : Mem w w1 (A ++ Hold.val (Kd.slice e d) lo w1.heap.size l1 [v1] :: B) := by
 have ha := h.apart
 rw [List.pairwise_append] at ha
 obtain ⟨hA, hB, hAB⟩ := ha
 rw [List.pairwise_cons] at hB
 have hf := h.fits _ (List.mem_append_right _ List.mem_cons_self)
 have hlo : w.heap.size ≤ lo := hf.1
 have hHA : ∀ x ∈ A, x.hi ≤ lo := fun x hx => hH x (List.mem_append_left _ hx)
 have hHB : ∀ x ∈ B, x.hi ≤ lo := fun x hx => hH x (List.mem_append_right _ hx)
 refine ⟨h.below.trans ⟨hb.os, hb.tape, hb.output, hb.size, fun i hi => hb.block i (Nat.lt_of_lt_of_le hi hlo)⟩, fun x hx => ?_, fun x hx => ?_, ?_⟩
 ·rcases List.mem_append.1 hx with hx | hx
  ·exact x.mv (fun k _ h2 _ => hb.block k (Nat.lt_of_lt_of_le h2 (hHA x hx))) (h.says x (List.mem_append_left _ hx))
  ·rcases List.mem_cons.1 hx with rfl | hx
   ·exact ⟨v1, rfl, Kd.R_mono (Kd.R_bound hr) (fun k hk => ⟨hk.1, hk.2.2.1⟩)⟩
   ·exact x.mv (fun k _ h2 _ => hb.block k (Nat.lt_of_lt_of_le h2 (hHB x hx))) (h.says x (List.mem_append_right _ (.tail _ hx)))
 ·rcases List.mem_append.1 hx with hx | hx
  ·have := h.fits x (List.mem_append_left _ hx)
   exact ⟨this.1, Nat.le_trans this.2 hb.size⟩
  ·rcases List.mem_cons.1 hx with rfl | hx
   ·exact ⟨hlo, Nat.le_refl _⟩
   ·have := h.fits x (List.mem_append_right _ (.tail _ hx))
    exact ⟨this.1, Nat.le_trans this.2 hb.size⟩
 ·rw [List.pairwise_append]
  refine ⟨hA, List.pairwise_cons.2 ⟨fun x hx => .inl (hHB x hx), hB.2⟩, fun c hc b hb' => ?_⟩
  rcases List.mem_cons.1 hb' with rfl | hb'
  ·exact .inr (hHA c hc)
  ·exact hAB c hc b (List.mem_cons_of_mem _ hb')
theorem Mem.top {α : Type} {d : Kd α} {w W : World} {K : List Hold} {b : Nat} {x : α} {cs : List Value} (h : Mem w W K) (hK : ∀ y ∈ K, y.hi ≤ b) (h0 : w.heap.size ≤ b) (hb : b ≤ W.heap.size) (hm : d.M W b (fun _ => True) x cs) : Mem w W (Hold.val d b W.heap.size x cs :: K) := by
 refine ⟨h.below, fun y hy => ?_, fun y hy => ?_, List.Pairwise.cons (fun y hy => .inl (hK y hy)) h.apart⟩
 ·rcases List.mem_cons.1 hy with rfl | hy
  ·exact d.M_mono (fun k hk => ⟨hk.2.1, hk.2.2.1⟩) (d.M_bound hm)
  ·exact h.says y hy
 ·rcases List.mem_cons.1 hy with rfl | hy
  ·exact ⟨h0, Nat.le_refl _⟩
  ·exact h.fits y hy
end Go.Proofs.Ytcbaokflimdjnaa.Law
end
section
namespace Go.Proofs.Ytcbaokflimdjnaa.Law
open Go.RowKit Go.Proofs.YtcbaokflimdjnaaW.PrintWords Go.Proofs.YtcbaokflimdjnaaW.PrintLast Go.Proofs.Ytcbaokflimdjnaa.Steps Go.Proofs.YtcbaokflimdjnaaW.PrintMore Go.Proofs.Ytcbaokflimdjnaa.Num Go.Proofs.Ytcbaokflimdjnaa
set_option maxHeartbeats 16000000 in
set_option maxRecDepth 100000 in
theorem cFuncS (s : ByteArray) (a : Nat) (bad : Bool) (hs : s.size ≤ 12000) (ha : a ≤ s.size) (w0 W : World) (H : List Hold) (gr : Nat) (M : RdAt 112 w0 W H gr s a bad) :
  Calls Try.prog 85 #[.pointer (some ⟨gr, 0, none⟩)] W fun e w' => FPost 112 w0 W.heap.size H gr s a bad e w' := by
 have hu0 := Try.underlying112; have hu1 := Try.underlying73; have hu2 := Try.underlying105; have hu3 := Try.underlying76; have hu4 := Try.underlying107; have hu5 := Try.underlying69; have hu6 := Try.underlying70; have hu7 := Try.underlying71; have hu8 := Try.underlying3; have hu9 := Try.underlying9
 obtain ⟨g2, hg2⟩ : ∃ g2, g2 = W.heap.size := ⟨_, rfl⟩
 have HH := Aside0.mk (show gr + 1 ≤ g2 ∧ ∀ x ∈ H, x.hi ≤ g2 from ⟨by rw [hg2]; exact (Mem.fits M _ (.head _)).2, fun x hx => by rw [hg2]; exact (Mem.fits M x (.tail _ hx)).2⟩)
 have M1 : Aside0 (Mem w0 (W.alloc (.cells #[.int .i64 0, .int .i64 0, .slice none 0 0, .slice none 0 0, .slice none 0 0] 73)) (Hold.box gr #[.string s, .int .i64 (a : Int), .bool bad] 112 :: Hold.box g2 #[.int .i64 0, .int .i64 0, .slice none 0 0, .slice none 0 0, .slice none 0 0] 73 :: H)) := ⟨(Mem.allocAt M hg2 _ _).swap2⟩
 clear M
 go_enter Try.func85, Try.ntmps85
 go_upto_region 1 with fail
 rw [← hg2]
 generalize hW1 : W.alloc (.cells #[.int .i64 0, .int .i64 0, .slice none 0 0, .slice none 0 0, .slice none 0 0] 73) = W1 at M1 ⊢
 have HG2 := Aside0.mk hg2; clear hW1 hg2
 obtain ⟨g3, hg3⟩ : ∃ g3, g3 = W1.heap.size := ⟨_, rfl⟩
 have M2 : Aside0 (Mem w0 (W1.alloc (.cells #[.int .i64 0, .int .i64 0, .slice none 0 0, .slice none 0 0, .slice none 0 0] 73)) (Hold.box gr #[.string s, .int .i64 (a : Int), .bool bad] 112 :: Hold.box g3 #[.int .i64 0, .int .i64 0, .slice none 0 0, .slice none 0 0, .slice none 0 0] 73 :: Hold.box g2 #[.int .i64 0, .int .i64 0, .slice none 0 0, .slice none 0 0, .slice none 0 0] 73 :: H)) := ⟨(M1.out.allocAt hg3 _ _).swap2⟩
 go_upto_region 2 with fail
 rw [← hg3]
 generalize hW2 : W1.alloc (.cells #[.int .i64 0, .int .i64 0, .slice none 0 0, .slice none 0 0, .slice none 0 0] 73) = W2 at M2 ⊢
 clear hW2 hg3 M1
 have HV := Aside0.mk (cVarAtS s a bad hs ha); have hr := rel_var s a bad; have hi := stV_in s ha bad
 have HR1 := Aside0.mk hr; clear hr
 generalize stV s a bad = r at HV HR1 hi
 obtain ⟨p, a1, b1⟩ := r
 simp only at HV HR1 hi
 have hv1 := hi.1; have ha1 := hi.2; clear hi
 go_wp2_with fail
 refine (HV.out w0 _ _ gr M2.out).mono ?_
 rintro e w1 ⟨rfl, h⟩
 have M3 : Aside0 (Mem w0 w1 (Hold.box gr #[.string s, .int .i64 (a1 : Int), .bool b1] 112 :: Hold.box g3 #[.int .i64 0, .int .i64 0, .slice none 0 0, .slice none 0 0, .slice none 0 0] 73 :: Hold.box g2 #[.int .i64 0, .int .i64 0, .slice none 0 0, .slice none 0 0, .slice none 0 0] 73 :: H)) := ⟨h⟩
 clear h HV M2
 have z3 := M3.out.box (.tail _ (.head _)); have f3 := M3.out.free (.tail _ (.head _))
 have M4 : Aside0 (Mem w0 (w1.setCell ⟨g3, 0, none⟩ (.int .i64 p)) (Hold.box gr #[.string s, .int .i64 (a1 : Int), .bool b1] 112 :: Hold.box g3 #[.int .i64 p, .int .i64 0, .slice none 0 0, .slice none 0 0, .slice none 0 0] 73 :: Hold.box g2 #[.int .i64 0, .int .i64 0, .slice none 0 0, .slice none 0 0, .slice none 0 0] 73 :: H)) := ⟨Mem.set (A := [_]) M3.out 0 (.int .i64 p) rfl⟩
 clear M3
 go_upto_region 3 with fail
 clear z3 f3
 generalize hW4 : w1.setCell ⟨g3, 0, none⟩ (.int .i64 p) = W4 at M4 ⊢
 clear hW4
 have HV := Aside0.mk (cVarAtS s a1 b1 hs ha1); have hr := rel_var s a1 b1; have hi := stV_in s ha1 b1
 have HR2 := Aside0.mk hr; clear hr
 generalize stV s a1 b1 = r at HV HR2 hi
 obtain ⟨r, a2, b2⟩ := r
 simp only at HV HR2 hi
 have hv2 := hi.1; have ha2 := hi.2; clear hi
 go_wp2_with fail
 refine (HV.out w0 _ _ gr M4.out).mono ?_
 rintro e w2 ⟨rfl, h⟩
 have M5 : Aside0 (Mem w0 w2 (Hold.box gr #[.string s, .int .i64 (a2 : Int), .bool b2] 112 :: Hold.box g3 #[.int .i64 p, .int .i64 0, .slice none 0 0, .slice none 0 0, .slice none 0 0] 73 :: Hold.box g2 #[.int .i64 0, .int .i64 0, .slice none 0 0, .slice none 0 0, .slice none 0 0] 73 :: H)) := ⟨h⟩
 clear h HV M4
 have z3 := M5.out.box (.tail _ (.head _)); have f3 := M5.out.free (.tail _ (.head _))
 have M6 : Aside0 (Mem w0 (w2.setCell ⟨g3, 1, none⟩ (.int .i64 r)) (Hold.box gr #[.string s, .int .i64 (a2 : Int), .bool b2] 112 :: Hold.box g3 #[.int .i64 p, .int .i64 r, .slice none 0 0, .slice none 0 0, .slice none 0 0] 73 :: Hold.box g2 #[.int .i64 0, .int .i64 0, .slice none 0 0, .slice none 0 0, .slice none 0 0] 73 :: H)) := ⟨Mem.set (A := [_]) M5.out 1 (.int .i64 r) rfl⟩
 clear M5
 go_upto_region 4 with fail
 clear z3 f3
 generalize hW6 : w2.setCell ⟨g3, 1, none⟩ (.int .i64 r) = W6 at M6 ⊢
 clear hW6
 have HV := Aside0.mk (cVarAtS s a2 b2 hs ha2); have hr := rel_var s a2 b2; have hi := stV_in s ha2 b2
 have HR3 := Aside0.mk hr; clear hr
 generalize stV s a2 b2 = r at HV HR3 hi
 obtain ⟨n0, a3, b3⟩ := r
 simp only at HV HR3 hi
 have hv3 := hi.1; have ha3 := hi.2; clear hi
 go_wp2_with fail
 refine (HV.out w0 _ _ gr M6.out).mono ?_
 rintro e w3 ⟨rfl, h⟩
 have M7_0 : Aside0 (Mem w0 w3 (Hold.box gr #[.string s, .int .i64 (a3 : Int), .bool b3] 112 :: Hold.box g3 #[.int .i64 p, .int .i64 r, .slice none 0 0, .slice none 0 0, .slice none 0 0] 73 :: Hold.box g2 #[.int .i64 0, .int .i64 0, .slice none 0 0, .slice none 0 0, .slice none 0 0] 73 :: H)) := ⟨h⟩
 clear h HV M6
 have HF0 := Aside0.mk (show (g3 + 1 ≤ w3.heap.size ∧ g2 + 1 ≤ w3.heap.size) ∧ True from ⟨⟨(M7_0.out.fits _ (.tail _ (.head _))).2, (M7_0.out.fits _ (.tail _ (.tail _ (.head _)))).2⟩, trivial⟩)
 have M8 : Aside0 (Mem w0 w3 (Hold.box gr #[.string s, .int .i64 (a3 : Int), .bool b3] 112 :: Hold.val (Kd.slice 105 kCap) w3.heap.size w3.heap.size [] [.slice none 0 0] :: Hold.box g3 #[.int .i64 p, .int .i64 r, .slice none 0 0, .slice none 0 0, .slice none 0 0] 73 :: Hold.box g2 #[.int .i64 0, .int .i64 0, .slice none 0 0, .slice none 0 0, .slice none 0 0] 73 :: H)) := ⟨(M7_0.out.pushR (Below.refl _ _) (Kd.R_nil kCap 105 _ w3.heap.size (fun _ => True))).swap2⟩
 obtain ⟨lo0, hlo⟩ : ∃ lo : Nat, lo = w3.heap.size := ⟨_, rfl⟩
 rw [← hlo] at M8 HF0
 clear hlo M7_0
 go_upto_region 6 with fail
 go_loopw [5] (fun v wx => ∃ (k aL0 hi0 : Nat) (bL0 : Bool) (l0 : List Cap) (X0 : Option Addr) (Y0 : Nat), v = .int .i64 k ∧ (k : Int) ≤ n0 ∧ k ≤ 1000 ∧ aL0 ≤ s.size ∧ lo0 ≤ hi0 ∧ Aside0 (RInv No (pcap s) a3 b3 k l0 aL0 bL0) ∧ Aside0 (Mem w0 wx (Hold.box gr #[.string s, .int .i64 (aL0 : Int), .bool bL0] 112 :: Hold.val (Kd.slice 105 kCap) lo0 hi0 l0 [.slice X0 l0.length Y0] :: Hold.box g3 #[.int .i64 p, .int .i64 r, .slice X0 l0.length Y0, .slice none 0 0, .slice none 0 0] 73 :: Hold.box g2 #[.int .i64 0, .int .i64 0, .slice none 0 0, .slice none 0 0, .slice none 0 0] 73 :: H))) (fun v _ => 1001 - (intOf v).toNat)
 case atStart => exact ⟨0, a3, lo0, b3, [], none, 0, rfl, by omega, by omega, ha3, Nat.le_refl _, ⟨RInv.start _ _ _ _⟩, M8⟩
 case round =>
 clear M8
 obtain ⟨k, aL0, hi0, bL0, l0, X0, Y0, rfl, hkn, hk1000, haL0, hhi0, HJ, M0z⟩ := hrel
 have hll := HJ.out.1
 go_upto_region 6 with fail
 go_cut [33] (fun u wx => ∃ (c : Bool) (W : World), u = .bool c ∧ Aside0 (c = true → ((k : Int) < n0 ∧ k < 1000 ∧ bL0 = false)) ∧ Aside0 (c = false → (bL0 = true ∨ (k : Int) = n0 ∨ k = 1000)) ∧ Aside0 (W = wx) ∧ Aside0 (Mem w0 W (Hold.box gr #[.string s, .int .i64 (aL0 : Int), .bool bL0] 112 :: Hold.val (Kd.slice 105 kCap) lo0 hi0 l0 [.slice X0 l0.length Y0] :: Hold.box g3 #[.int .i64 p, .int .i64 r, .slice X0 l0.length Y0, .slice none 0 0, .slice none 0 0] 73 :: Hold.box g2 #[.int .i64 0, .int .i64 0, .slice none 0 0, .slice none 0 0, .slice none 0 0] 73 :: H)))
 case first =>
  have z0 := M0z.out.box (.head _)
  by_cases c1 : (k : Int) < n0
  ·by_cases c2 : (k : Int) < 1000
   ·cases bL0
    ·go_wp2_with fail
     go_meet
     exact ⟨true, wr, rfl, ⟨fun _ => ⟨c1, by omega, (by first | rfl | trivial)⟩⟩, ⟨fun h => (by cases h)⟩, ⟨rfl⟩, M0z⟩
    ·go_wp2_with fail
     go_meet
     exact ⟨false, wr, rfl, ⟨fun h => (by cases h)⟩, ⟨fun _ => .inl (by first | rfl | trivial)⟩, ⟨rfl⟩, M0z⟩
   ·go_wp2_with fail
    go_meet
    exact ⟨false, wr, rfl, ⟨fun h => (by cases h)⟩, ⟨fun _ => .inr (.inr (by omega))⟩, ⟨rfl⟩, M0z⟩
  ·go_wp2_with fail
   go_meet
   exact ⟨false, wr, rfl, ⟨fun h => (by cases h)⟩, ⟨fun _ => .inr (.inl (by omega))⟩, ⟨rfl⟩, M0z⟩
 case rest =>
 clear M0z
 obtain ⟨c, Wc, rfl, HC1, HC0, HW, M0z⟩ := hcut
 have hw9 := HW.out; subst hw9; clear HW
 rcases Bool.eq_false_or_eq_true c with hc | hc
 ·obtain ⟨hkn2, hk2, hbj⟩ := HC1.out hc
  subst hc
  clear HC1 HC0
  go_upto_region 8 with fail
  have HV := Aside0.mk (cOneS s aL0 bL0 hs haL0); have hr := rel_one s aL0 bL0; have hi0 := stO_in s haL0 bL0
  have HR4 := Aside0.mk hr; clear hr
  generalize stO s aL0 bL0 = r at HV HR4 hi0
  obtain ⟨v0, a4, b4⟩ := r
  simp only at HV HR4 hi0
  have hv4 := hi0.1; have ha4 := hi0.2; clear hi0
  go_wp2_with fail
  refine (HV.out w0 _ _ gr M0z.out).mono ?_
  rintro e w4 ⟨rfl, h⟩
  have MR0 : Aside0 (Mem w0 w4 (Hold.box gr #[.string s, .int .i64 (a4 : Int), .bool b4] 112 :: Hold.val (Kd.slice 105 kCap) lo0 hi0 l0 [.slice X0 l0.length Y0] :: Hold.box g3 #[.int .i64 p, .int .i64 r, .slice X0 l0.length Y0, .slice none 0 0, .slice none 0 0] 73 :: Hold.box g2 #[.int .i64 0, .int .i64 0, .slice none 0 0, .slice none 0 0, .slice none 0 0] 73 :: H)) := ⟨h⟩
  clear h HV M0z
  obtain ⟨vb, hvb⟩ : ∃ vb, vb = decide (v0 = 1) := ⟨_, rfl⟩
  have HVB := Aside0.mk hvb
  have q1 : (v0 == 1) = vb := by rw [hvb]; by_cases h : v0 = 1 <;> simp [h]
  have q2 : decide (v0 = 1) = vb := hvb.symm
  clear hvb
  obtain ⟨ge, hge⟩ : ∃ ge, ge = w4.heap.size := ⟨_, rfl⟩
  have ME0 : Aside0 (Mem w0 (w4.alloc (.cells #[.bool vb, .int .i64 0] 105)) (Hold.box gr #[.string s, .int .i64 (a4 : Int), .bool b4] 112 :: Hold.box ge #[.bool vb, .int .i64 0] 105 :: Hold.val (Kd.slice 105 kCap) lo0 hi0 l0 [.slice X0 l0.length Y0] :: Hold.box g3 #[.int .i64 p, .int .i64 r, .slice X0 l0.length Y0, .slice none 0 0, .slice none 0 0] 73 :: Hold.box g2 #[.int .i64 0, .int .i64 0, .slice none 0 0, .slice none 0 0, .slice none 0 0] 73 :: H)) := ⟨(MR0.out.allocAt hge _ _).swap2⟩
  go_upto_region 9 with fail
  rw [← hge]
  generalize hWe : w4.alloc (.cells #[.bool vb, .int .i64 0] 105) = We at ME0 ⊢
  clear hWe hge MR0
  clear q1 q2
  have HV := Aside0.mk (cVarAtS s a4 b4 hs ha4); have hr := rel_var s a4 b4; have hi0 := stV_in s ha4 b4
  have HR5 := Aside0.mk hr; clear hr
  generalize stV s a4 b4 = r at HV HR5 hi0
  obtain ⟨v1, a5, b5⟩ := r
  simp only at HV HR5 hi0
  have hv5 := hi0.1; have ha5 := hi0.2; clear hi0
  go_wp2_with fail
  refine (HV.out w0 _ _ gr ME0.out).mono ?_
  rintro e w5 ⟨rfl, h⟩
  have MR1 : Aside0 (Mem w0 w5 (Hold.box gr #[.string s, .int .i64 (a5 : Int), .bool b5] 112 :: Hold.box ge #[.bool vb, .int .i64 0] 105 :: Hold.val (Kd.slice 105 kCap) lo0 hi0 l0 [.slice X0 l0.length Y0] :: Hold.box g3 #[.int .i64 p, .int .i64 r, .slice X0 l0.length Y0, .slice none 0 0, .slice none 0 0] 73 :: Hold.box g2 #[.int .i64 0, .int .i64 0, .slice none 0 0, .slice none 0 0, .slice none 0 0] 73 :: H)) := ⟨h⟩
  clear h HV ME0
  have ze := MR1.out.box (.tail _ (.head _)); have fe := MR1.out.free (.tail _ (.head _))
  have MS1 : Aside0 (Mem w0 (w5.setCell ⟨ge, 1, none⟩ (.int .i64 v1)) (Hold.box gr #[.string s, .int .i64 (a5 : Int), .bool b5] 112 :: Hold.box ge #[.bool vb, .int .i64 v1] 105 :: Hold.val (Kd.slice 105 kCap) lo0 hi0 l0 [.slice X0 l0.length Y0] :: Hold.box g3 #[.int .i64 p, .int .i64 r, .slice X0 l0.length Y0, .slice none 0 0, .slice none 0 0] 73 :: Hold.box g2 #[.int .i64 0, .int .i64 0, .slice none 0 0, .slice none 0 0, .slice none 0 0] 73 :: H)) := ⟨Mem.set (A := [_]) MR1.out 1 (.int .i64 v1) rfl⟩
  clear MR1
  go_upto_region 10 with fail
  clear ze fe
  generalize hWs : w5.setCell ⟨ge, 1, none⟩ (.int .i64 v1) = Ws1 at MS1 ⊢
  clear hWs
  have HX := Aside0.mk (show Rel No (pcap s) aL0 bL0 (⟨vb, v1⟩ : Cap) a5 b5 from Rel.seq HR4.out (Rel.seq HR5.out (by rw [← HVB.out]; exact rel_ret _ _ _ _) (fun h => h.elim)) (fun h => h.elim))
  have ze := MS1.out.box (.tail _ (.head _)); have zg := MS1.out.box (.tail _ (.tail _ (.tail _ (.head _)))); have fg := MS1.out.free (.tail _ (.tail _ (.tail _ (.head _))))
  have MN : Aside0 (Mem w0 Ws1 (Hold.box gr #[.string s, .int .i64 (a5 : Int), .bool b5] 112 :: Hold.val (Kd.slice 105 kCap) lo0 hi0 l0 [.slice X0 l0.length Y0] :: Hold.box g3 #[.int .i64 p, .int .i64 r, .slice X0 l0.length Y0, .slice none 0 0, .slice none 0 0] 73 :: Hold.box g2 #[.int .i64 0, .int .i64 0, .slice none 0 0, .slice none 0 0, .slice none 0 0] 73 :: H)) := ⟨MS1.out.mid (A := [_])⟩
  clear MS1
  have hlw : lo0 ≤ Ws1.heap.size := Nat.le_trans hhi0 (MN.out.fits _ (.tail _ (.head _))).2
  go_wp2_with (((with_reducible refine gate_builtin (b := .append) (xs := #[.tmp 44, .tmp 46]) rfl ?_); at_builtin; refine Aside0.out ?_))
  refine ⟨?_⟩
  refine Kd.R_append kCap (w0 := Ws1) lo0 rfl (.tmp 44) (.tmp 46) 69 105 (.agg #[.bool false, .int .i64 0]) 16 rfl Try.underlying69 (by kernel_rfl) rfl (by decide) (by decide) (.slice X0 l0.length Y0) l0 (⟨vb, v1⟩ : Cap) [.bool vb, .int .i64 v1] (fun k => lo0 ≤ k) (fun _ => False) ?aV ?aX (kCap_mkM _ _ _ _) (fun _ h => h.elim) (fun k hk => Nat.le_trans hlw hk) (Kd.R_mono (MN.out.row (.tail _ (.head _))) (fun k hk => hk.1)) (Below.refl _ _) hlw (by omega) ?_
  (case aV => first | rfl | (go_simp; done) | (go_simp; rfl))
  (case aX => first | rfl | (go_simp; done) | (go_simp; rfl))
  intro v9 w9 ho hb9 hg9 hat9; clear hg9 hat9
  obtain ⟨A9, y9, hv9⟩ := Kd.R_slice ho; subst hv9
  obtain ⟨ln, hln⟩ : ∃ ln, ln = l0 ++ [(⟨vb, v1⟩ : Cap)] := ⟨_, rfl⟩
  have HLN := Aside0.mk hln
  rw [← hln] at ho ⊢
  clear hln
  have MG : Aside0 (Mem w0 w9 (Hold.box gr #[.string s, .int .i64 (a5 : Int), .bool b5] 112 :: Hold.val (Kd.slice 105 kCap) lo0 w9.heap.size ln [.slice A9 ln.length y9] :: Hold.box g3 #[.int .i64 p, .int .i64 r, .slice X0 l0.length Y0, .slice none 0 0, .slice none 0 0] 73 :: Hold.box g2 #[.int .i64 0, .int .i64 0, .slice none 0 0, .slice none 0 0, .slice none 0 0] 73 :: H)) := ⟨Mem.growAt (A := [_]) MN.out (fun x hx => ?mgo) hb9 ho⟩
  (case mgo =>
   have h1 := HH.out; have h2 := HF0.out
   simp only [List.mem_append, List.mem_cons, List.not_mem_nil, or_false] at hx
   rcases hx with rfl | rfl | rfl | hx
   ·simp only [Hold.box]; omega
   ·simp only [Hold.box]; omega
   ·simp only [Hold.box]; omega
   ·have := h1.2 x hx; omega)
  have hh9 : lo0 ≤ w9.heap.size := Nat.le_trans hlw hb9.size
  clear ho hb9 MN ze zg fg
  have zg := MG.out.box (.tail _ (.tail _ (.head _))); have fg := MG.out.free (.tail _ (.tail _ (.head _)))
  have MZ : Aside0 (Mem w0 (w9.setCell ⟨g3, 2, none⟩ (.slice A9 ln.length y9)) (Hold.box gr #[.string s, .int .i64 (a5 : Int), .bool b5] 112 :: Hold.val (Kd.slice 105 kCap) lo0 w9.heap.size ln [.slice A9 ln.length y9] :: Hold.box g3 #[.int .i64 p, .int .i64 r, .slice A9 ln.length y9, .slice none 0 0, .slice none 0 0] 73 :: Hold.box g2 #[.int .i64 0, .int .i64 0, .slice none 0 0, .slice none 0 0, .slice none 0 0] 73 :: H)) := ⟨Mem.set (A := [_, _]) MG.out 2 (.slice A9 ln.length y9) rfl⟩
  clear MG
  have HJ2 := Aside0.mk (show RInv No (pcap s) a3 b3 (k + 1) ln a5 b5 from by rw [HLN.out]; exact HJ.out.step HX.out)
  have hszz : (w9.setCell ⟨g3, 2, none⟩ (.slice A9 ln.length y9)).heap.size = w9.heap.size := by simp
  go_wp2
  go_roundw
  (case measure => simp [intOf]; omega)
  (case rel => first | exact ⟨k + 1, a5, w9.heap.size, b5, ln, A9, y9, by go_num, by omega, by omega, ha5, hh9, HJ2, MZ⟩ | ((repeat apply Exists.intro); exact ⟨⟨k + 1, a5, w9.heap.size, b5, ln, A9, y9, by go_num, by omega, by omega, ha5, hh9, HJ2, MZ⟩, rfl⟩))
 have HL0 : Aside0 (Rel (fun l0 => (l0.length : Int) > 20) (plist (pcap s) 20 s) a2 b2 l0 aL0 bL0) := ⟨by
  have hc0 := HC0.out hc
  cases hb : bL0 with
  | true => exact RInv.bads (E := No) _ HR3.out hkn (hb ▸ HJ.out)
  | false =>
   have hc2 : (k : Int) = n0 ∨ k = 1000 := by
    rcases hc0 with h | h
    ·rw [hb] at h
     cases h
    ·exact h
   by_cases hm : n0 > 20
   ·have hc1 : (k : Int) > 20 := by omega
    exact rel_many _ HR3.out hm (fun e => by have h := HJ.out; rw [e] at h; rw [← hb]; exact h.stays) (.inr (by rw [hll]; exact hc1))
   ·have hkk : k = n0.toNat := by omega
    subst hkk
    exact Rel.weak (RInv.all HR3.out hm (hb ▸ HJ.out)) (fun l0 h => by obtain ⟨x, _, h⟩ := h; exact h.elim)⟩
 subst hc; clear HC1 HC0
 clear HJ hkn hk1000 hll
 
 go_upto_region 11 with fail
 have HV := Aside0.mk (cVarAtS s aL0 bL0 hs haL0); have hr := rel_var s aL0 bL0; have hi := stV_in s haL0 bL0
 have HR6 := Aside0.mk hr; clear hr
 generalize stV s aL0 bL0 = r at HV HR6 hi
 obtain ⟨n1, a6, b6⟩ := r
 simp only at HV HR6 hi
 have hv6 := hi.1; have ha6 := hi.2; clear hi
 go_wp2_with fail
 refine (HV.out w0 _ _ gr M0z.out).mono ?_
 rintro e w6 ⟨rfl, h⟩
 have M7_1 : Aside0 (Mem w0 w6 (Hold.box gr #[.string s, .int .i64 (a6 : Int), .bool b6] 112 :: Hold.val (Kd.slice 105 kCap) lo0 hi0 l0 [.slice X0 l0.length Y0] :: Hold.box g3 #[.int .i64 p, .int .i64 r, .slice X0 l0.length Y0, .slice none 0 0, .slice none 0 0] 73 :: Hold.box g2 #[.int .i64 0, .int .i64 0, .slice none 0 0, .slice none 0 0, .slice none 0 0] 73 :: H)) := ⟨h⟩
 clear h HV M0z
 have HF1 := Aside0.mk (show (g3 + 1 ≤ w6.heap.size ∧ g2 + 1 ≤ w6.heap.size) ∧ hi0 ≤ w6.heap.size from ⟨⟨(M7_1.out.fits _ (.tail _ (.tail _ (.head _)))).2, (M7_1.out.fits _ (.tail _ (.tail _ (.tail _ (.head _))))).2⟩, (M7_1.out.fits _ (.tail _ (.head _))).2⟩)
 have M8 : Aside0 (Mem w0 w6 (Hold.box gr #[.string s, .int .i64 (a6 : Int), .bool b6] 112 :: Hold.val (Kd.slice 76 kIns) w6.heap.size w6.heap.size [] [.slice none 0 0] :: Hold.val (Kd.slice 105 kCap) lo0 hi0 l0 [.slice X0 l0.length Y0] :: Hold.box g3 #[.int .i64 p, .int .i64 r, .slice X0 l0.length Y0, .slice none 0 0, .slice none 0 0] 73 :: Hold.box g2 #[.int .i64 0, .int .i64 0, .slice none 0 0, .slice none 0 0, .slice none 0 0] 73 :: H)) := ⟨(M7_1.out.pushR (Below.refl _ _) (Kd.R_nil kIns 76 _ w6.heap.size (fun _ => True))).swap2⟩
 obtain ⟨lo1, hlo⟩ : ∃ lo : Nat, lo = w6.heap.size := ⟨_, rfl⟩
 rw [← hlo] at M8 HF1
 clear hlo M7_1
 go_upto_region 13 with fail
 go_loopw [7] (fun v wx => ∃ (k aL1 hi1 : Nat) (bL1 : Bool) (l1 : List Ins) (X1 : Option Addr) (Y1 : Nat), v = .int .i64 k ∧ (k : Int) ≤ n1 ∧ k ≤ 1000 ∧ aL1 ≤ s.size ∧ lo1 ≤ hi1 ∧ Aside0 (RInv No (pins s) a6 b6 k l1 aL1 bL1) ∧ Aside0 (Mem w0 wx (Hold.box gr #[.string s, .int .i64 (aL1 : Int), .bool bL1] 112 :: Hold.val (Kd.slice 76 kIns) lo1 hi1 l1 [.slice X1 l1.length Y1] :: Hold.val (Kd.slice 105 kCap) lo0 hi0 l0 [.slice X0 l0.length Y0] :: Hold.box g3 #[.int .i64 p, .int .i64 r, .slice X0 l0.length Y0, .slice X1 l1.length Y1, .slice none 0 0] 73 :: Hold.box g2 #[.int .i64 0, .int .i64 0, .slice none 0 0, .slice none 0 0, .slice none 0 0] 73 :: H))) (fun v _ => 1001 - (intOf v).toNat)
 case atStart => exact ⟨0, a6, lo1, b6, [], none, 0, rfl, by omega, by omega, ha6, Nat.le_refl _, ⟨RInv.start _ _ _ _⟩, M8⟩
 case round =>
 clear M8
 obtain ⟨k, aL1, hi1, bL1, l1, X1, Y1, rfl, hkn, hk1000, haL1, hhi1, HJ, M1z⟩ := hrel
 have hll := HJ.out.1
 go_upto_region 13 with fail
 go_cut [64] (fun u wx => ∃ (c : Bool) (W : World), u = .bool c ∧ Aside0 (c = true → ((k : Int) < n1 ∧ k < 1000 ∧ bL1 = false)) ∧ Aside0 (c = false → (bL1 = true ∨ (k : Int) = n1 ∨ k = 1000)) ∧ Aside0 (W = wx) ∧ Aside0 (Mem w0 W (Hold.box gr #[.string s, .int .i64 (aL1 : Int), .bool bL1] 112 :: Hold.val (Kd.slice 76 kIns) lo1 hi1 l1 [.slice X1 l1.length Y1] :: Hold.val (Kd.slice 105 kCap) lo0 hi0 l0 [.slice X0 l0.length Y0] :: Hold.box g3 #[.int .i64 p, .int .i64 r, .slice X0 l0.length Y0, .slice X1 l1.length Y1, .slice none 0 0] 73 :: Hold.box g2 #[.int .i64 0, .int .i64 0, .slice none 0 0, .slice none 0 0, .slice none 0 0] 73 :: H)))
 case first =>
  have z0 := M1z.out.box (.head _)
  by_cases c1 : (k : Int) < n1
  ·by_cases c2 : (k : Int) < 1000
   ·cases bL1
    ·go_wp2_with fail
     go_meet
     exact ⟨true, wr, rfl, ⟨fun _ => ⟨c1, by omega, (by first | rfl | trivial)⟩⟩, ⟨fun h => (by cases h)⟩, ⟨rfl⟩, M1z⟩
    ·go_wp2_with fail
     go_meet
     exact ⟨false, wr, rfl, ⟨fun h => (by cases h)⟩, ⟨fun _ => .inl (by first | rfl | trivial)⟩, ⟨rfl⟩, M1z⟩
   ·go_wp2_with fail
    go_meet
    exact ⟨false, wr, rfl, ⟨fun h => (by cases h)⟩, ⟨fun _ => .inr (.inr (by omega))⟩, ⟨rfl⟩, M1z⟩
  ·go_wp2_with fail
   go_meet
   exact ⟨false, wr, rfl, ⟨fun h => (by cases h)⟩, ⟨fun _ => .inr (.inl (by omega))⟩, ⟨rfl⟩, M1z⟩
 case rest =>
 clear M1z
 obtain ⟨c, Wc, rfl, HC1, HC0, HW, M1z⟩ := hcut
 have hw9 := HW.out; subst hw9; clear HW
 rcases Bool.eq_false_or_eq_true c with hc | hc
 ·obtain ⟨hkn2, hk2, hbj⟩ := HC1.out hc
  subst hc
  clear HC1 HC0
  go_upto_region 15 with fail
  have HV := Aside0.mk (cOneS s aL1 bL1 hs haL1); have hr := rel_one s aL1 bL1; have hi1 := stO_in s haL1 bL1
  have HR7 := Aside0.mk hr; clear hr
  generalize stO s aL1 bL1 = r at HV HR7 hi1
  obtain ⟨v0, a7, b7⟩ := r
  simp only at HV HR7 hi1
  have hv7 := hi1.1; have ha7 := hi1.2; clear hi1
  go_wp2_with fail
  refine (HV.out w0 _ _ gr M1z.out).mono ?_
  rintro e w7 ⟨rfl, h⟩
  have MR0 : Aside0 (Mem w0 w7 (Hold.box gr #[.string s, .int .i64 (a7 : Int), .bool b7] 112 :: Hold.val (Kd.slice 76 kIns) lo1 hi1 l1 [.slice X1 l1.length Y1] :: Hold.val (Kd.slice 105 kCap) lo0 hi0 l0 [.slice X0 l0.length Y0] :: Hold.box g3 #[.int .i64 p, .int .i64 r, .slice X0 l0.length Y0, .slice X1 l1.length Y1, .slice none 0 0] 73 :: Hold.box g2 #[.int .i64 0, .int .i64 0, .slice none 0 0, .slice none 0 0, .slice none 0 0] 73 :: H)) := ⟨h⟩
  clear h HV M1z
  obtain ⟨ge, hge⟩ : ∃ ge, ge = w7.heap.size := ⟨_, rfl⟩
  have ME0 : Aside0 (Mem w0 (w7.alloc (.cells #[.int .i64 v0, .int .i64 0, .int .i64 0] 76)) (Hold.box gr #[.string s, .int .i64 (a7 : Int), .bool b7] 112 :: Hold.box ge #[.int .i64 v0, .int .i64 0, .int .i64 0] 76 :: Hold.val (Kd.slice 76 kIns) lo1 hi1 l1 [.slice X1 l1.length Y1] :: Hold.val (Kd.slice 105 kCap) lo0 hi0 l0 [.slice X0 l0.length Y0] :: Hold.box g3 #[.int .i64 p, .int .i64 r, .slice X0 l0.length Y0, .slice X1 l1.length Y1, .slice none 0 0] 73 :: Hold.box g2 #[.int .i64 0, .int .i64 0, .slice none 0 0, .slice none 0 0, .slice none 0 0] 73 :: H)) := ⟨(MR0.out.allocAt hge _ _).swap2⟩
  go_upto_region 16 with fail
  rw [← hge]
  generalize hWe : w7.alloc (.cells #[.int .i64 v0, .int .i64 0, .int .i64 0] 76) = We at ME0 ⊢
  clear hWe hge MR0
  have HV := Aside0.mk (cVarAtS s a7 b7 hs ha7); have hr := rel_var s a7 b7; have hi1 := stV_in s ha7 b7
  have HR8 := Aside0.mk hr; clear hr
  generalize stV s a7 b7 = r at HV HR8 hi1
  obtain ⟨v1, a8, b8⟩ := r
  simp only at HV HR8 hi1
  have hv8 := hi1.1; have ha8 := hi1.2; clear hi1
  go_wp2_with fail
  refine (HV.out w0 _ _ gr ME0.out).mono ?_
  rintro e w8 ⟨rfl, h⟩
  have MR1 : Aside0 (Mem w0 w8 (Hold.box gr #[.string s, .int .i64 (a8 : Int), .bool b8] 112 :: Hold.box ge #[.int .i64 v0, .int .i64 0, .int .i64 0] 76 :: Hold.val (Kd.slice 76 kIns) lo1 hi1 l1 [.slice X1 l1.length Y1] :: Hold.val (Kd.slice 105 kCap) lo0 hi0 l0 [.slice X0 l0.length Y0] :: Hold.box g3 #[.int .i64 p, .int .i64 r, .slice X0 l0.length Y0, .slice X1 l1.length Y1, .slice none 0 0] 73 :: Hold.box g2 #[.int .i64 0, .int .i64 0, .slice none 0 0, .slice none 0 0, .slice none 0 0] 73 :: H)) := ⟨h⟩
  clear h HV ME0
  have ze := MR1.out.box (.tail _ (.head _)); have fe := MR1.out.free (.tail _ (.head _))
  have MS1 : Aside0 (Mem w0 (w8.setCell ⟨ge, 1, none⟩ (.int .i64 v1)) (Hold.box gr #[.string s, .int .i64 (a8 : Int), .bool b8] 112 :: Hold.box ge #[.int .i64 v0, .int .i64 v1, .int .i64 0] 76 :: Hold.val (Kd.slice 76 kIns) lo1 hi1 l1 [.slice X1 l1.length Y1] :: Hold.val (Kd.slice 105 kCap) lo0 hi0 l0 [.slice X0 l0.length Y0] :: Hold.box g3 #[.int .i64 p, .int .i64 r, .slice X0 l0.length Y0, .slice X1 l1.length Y1, .slice none 0 0] 73 :: Hold.box g2 #[.int .i64 0, .int .i64 0, .slice none 0 0, .slice none 0 0, .slice none 0 0] 73 :: H)) := ⟨Mem.set (A := [_]) MR1.out 1 (.int .i64 v1) rfl⟩
  clear MR1
  go_upto_region 17 with fail
  clear ze fe
  generalize hWs : w8.setCell ⟨ge, 1, none⟩ (.int .i64 v1) = Ws1 at MS1 ⊢
  clear hWs
  have HV := Aside0.mk (cVarAtS s a8 b8 hs ha8); have hr := rel_var s a8 b8; have hi1 := stV_in s ha8 b8
  have HR9 := Aside0.mk hr; clear hr
  generalize stV s a8 b8 = r at HV HR9 hi1
  obtain ⟨v2, a9, b9⟩ := r
  simp only at HV HR9 hi1
  have hv9 := hi1.1; have ha9 := hi1.2; clear hi1
  go_wp2_with fail
  refine (HV.out w0 _ _ gr MS1.out).mono ?_
  rintro e w9 ⟨rfl, h⟩
  have MR2 : Aside0 (Mem w0 w9 (Hold.box gr #[.string s, .int .i64 (a9 : Int), .bool b9] 112 :: Hold.box ge #[.int .i64 v0, .int .i64 v1, .int .i64 0] 76 :: Hold.val (Kd.slice 76 kIns) lo1 hi1 l1 [.slice X1 l1.length Y1] :: Hold.val (Kd.slice 105 kCap) lo0 hi0 l0 [.slice X0 l0.length Y0] :: Hold.box g3 #[.int .i64 p, .int .i64 r, .slice X0 l0.length Y0, .slice X1 l1.length Y1, .slice none 0 0] 73 :: Hold.box g2 #[.int .i64 0, .int .i64 0, .slice none 0 0, .slice none 0 0, .slice none 0 0] 73 :: H)) := ⟨h⟩
  clear h HV MS1
  have ze := MR2.out.box (.tail _ (.head _)); have fe := MR2.out.free (.tail _ (.head _))
  have MS2 : Aside0 (Mem w0 (w9.setCell ⟨ge, 2, none⟩ (.int .i64 v2)) (Hold.box gr #[.string s, .int .i64 (a9 : Int), .bool b9] 112 :: Hold.box ge #[.int .i64 v0, .int .i64 v1, .int .i64 v2] 76 :: Hold.val (Kd.slice 76 kIns) lo1 hi1 l1 [.slice X1 l1.length Y1] :: Hold.val (Kd.slice 105 kCap) lo0 hi0 l0 [.slice X0 l0.length Y0] :: Hold.box g3 #[.int .i64 p, .int .i64 r, .slice X0 l0.length Y0, .slice X1 l1.length Y1, .slice none 0 0] 73 :: Hold.box g2 #[.int .i64 0, .int .i64 0, .slice none 0 0, .slice none 0 0, .slice none 0 0] 73 :: H)) := ⟨Mem.set (A := [_]) MR2.out 2 (.int .i64 v2) rfl⟩
  clear MR2
  go_upto_region 18 with fail
  clear ze fe
  generalize hWs : w9.setCell ⟨ge, 2, none⟩ (.int .i64 v2) = Ws2 at MS2 ⊢
  clear hWs
  have HX := Aside0.mk (show Rel No (pins s) aL1 bL1 (⟨v0, v1, v2⟩ : Ins) a9 b9 from Rel.seq HR7.out (Rel.seq HR8.out (Rel.seq HR9.out (rel_ret _ _ _ _) (fun h => h.elim)) (fun h => h.elim)) (fun h => h.elim))
  have ze := MS2.out.box (.tail _ (.head _)); have zg := MS2.out.box (.tail _ (.tail _ (.tail _ (.tail _ (.head _))))); have fg := MS2.out.free (.tail _ (.tail _ (.tail _ (.tail _ (.head _)))))
  have MN : Aside0 (Mem w0 Ws2 (Hold.box gr #[.string s, .int .i64 (a9 : Int), .bool b9] 112 :: Hold.val (Kd.slice 76 kIns) lo1 hi1 l1 [.slice X1 l1.length Y1] :: Hold.val (Kd.slice 105 kCap) lo0 hi0 l0 [.slice X0 l0.length Y0] :: Hold.box g3 #[.int .i64 p, .int .i64 r, .slice X0 l0.length Y0, .slice X1 l1.length Y1, .slice none 0 0] 73 :: Hold.box g2 #[.int .i64 0, .int .i64 0, .slice none 0 0, .slice none 0 0, .slice none 0 0] 73 :: H)) := ⟨MS2.out.mid (A := [_])⟩
  clear MS2
  have hlw : lo1 ≤ Ws2.heap.size := Nat.le_trans hhi1 (MN.out.fits _ (.tail _ (.head _))).2
  go_wp2_with (((with_reducible refine gate_builtin (b := .append) (xs := #[.tmp 77, .tmp 79]) rfl ?_); at_builtin; refine Aside0.out ?_))
  refine ⟨?_⟩
  refine Kd.R_append kIns (w0 := Ws2) lo1 rfl (.tmp 77) (.tmp 79) 70 76 (.agg #[.int .i64 0, .int .i64 0, .int .i64 0]) 24 rfl Try.underlying70 (by kernel_rfl) rfl (by decide) (by decide) (.slice X1 l1.length Y1) l1 (⟨v0, v1, v2⟩ : Ins) [.int .i64 v0, .int .i64 v1, .int .i64 v2] (fun k => lo1 ≤ k) (fun _ => False) ?aV ?aX (kIns_mkM _ _ _ _) (fun _ h => h.elim) (fun k hk => Nat.le_trans hlw hk) (Kd.R_mono (MN.out.row (.tail _ (.head _))) (fun k hk => hk.1)) (Below.refl _ _) hlw (by omega) ?_
  (case aV => first | rfl | (go_simp; done) | (go_simp; rfl))
  (case aX => first | rfl | (go_simp; done) | (go_simp; rfl))
  intro v9 w9 ho hb9 hg9 hat9; clear hg9 hat9
  obtain ⟨A9, y9, hv9⟩ := Kd.R_slice ho; subst hv9
  obtain ⟨ln, hln⟩ : ∃ ln, ln = l1 ++ [(⟨v0, v1, v2⟩ : Ins)] := ⟨_, rfl⟩
  have HLN := Aside0.mk hln
  rw [← hln] at ho ⊢
  clear hln
  have MG : Aside0 (Mem w0 w9 (Hold.box gr #[.string s, .int .i64 (a9 : Int), .bool b9] 112 :: Hold.val (Kd.slice 76 kIns) lo1 w9.heap.size ln [.slice A9 ln.length y9] :: Hold.val (Kd.slice 105 kCap) lo0 hi0 l0 [.slice X0 l0.length Y0] :: Hold.box g3 #[.int .i64 p, .int .i64 r, .slice X0 l0.length Y0, .slice X1 l1.length Y1, .slice none 0 0] 73 :: Hold.box g2 #[.int .i64 0, .int .i64 0, .slice none 0 0, .slice none 0 0, .slice none 0 0] 73 :: H)) := ⟨Mem.growAt (A := [_]) MN.out (fun x hx => ?mgo) hb9 ho⟩
  (case mgo =>
   have h1 := HH.out; have h2 := HF1.out
   simp only [List.mem_append, List.mem_cons, List.not_mem_nil, or_false] at hx
   rcases hx with rfl | rfl | rfl | rfl | hx
   ·simp only [Hold.box]; omega
   ·simp only [Hold.val]; omega
   ·simp only [Hold.box]; omega
   ·simp only [Hold.box]; omega
   ·have := h1.2 x hx; omega)
  have hh9 : lo1 ≤ w9.heap.size := Nat.le_trans hlw hb9.size
  clear ho hb9 MN ze zg fg
  have zg := MG.out.box (.tail _ (.tail _ (.tail _ (.head _)))); have fg := MG.out.free (.tail _ (.tail _ (.tail _ (.head _))))
  have MZ : Aside0 (Mem w0 (w9.setCell ⟨g3, 3, none⟩ (.slice A9 ln.length y9)) (Hold.box gr #[.string s, .int .i64 (a9 : Int), .bool b9] 112 :: Hold.val (Kd.slice 76 kIns) lo1 w9.heap.size ln [.slice A9 ln.length y9] :: Hold.val (Kd.slice 105 kCap) lo0 hi0 l0 [.slice X0 l0.length Y0] :: Hold.box g3 #[.int .i64 p, .int .i64 r, .slice X0 l0.length Y0, .slice A9 ln.length y9, .slice none 0 0] 73 :: Hold.box g2 #[.int .i64 0, .int .i64 0, .slice none 0 0, .slice none 0 0, .slice none 0 0] 73 :: H)) := ⟨Mem.set (A := [_, _, _]) MG.out 3 (.slice A9 ln.length y9) rfl⟩
  clear MG
  have HJ2 := Aside0.mk (show RInv No (pins s) a6 b6 (k + 1) ln a9 b9 from by rw [HLN.out]; exact HJ.out.step HX.out)
  have hszz : (w9.setCell ⟨g3, 3, none⟩ (.slice A9 ln.length y9)).heap.size = w9.heap.size := by simp
  go_wp2
  go_roundw
  (case measure => simp [intOf]; omega)
  (case rel => first | exact ⟨k + 1, a9, w9.heap.size, b9, ln, A9, y9, by go_num, by omega, by omega, ha9, hh9, HJ2, MZ⟩ | ((repeat apply Exists.intro); exact ⟨⟨k + 1, a9, w9.heap.size, b9, ln, A9, y9, by go_num, by omega, by omega, ha9, hh9, HJ2, MZ⟩, rfl⟩))
 have HL1 : Aside0 (Rel (fun l1 => (l1.length : Int) > 300) (plist (pins s) 300 s) aL0 bL0 l1 aL1 bL1) := ⟨by
  have hc0 := HC0.out hc
  cases hb : bL1 with
  | true => exact RInv.bads (E := No) _ HR6.out hkn (hb ▸ HJ.out)
  | false =>
   have hc2 : (k : Int) = n1 ∨ k = 1000 := by
    rcases hc0 with h | h
    ·rw [hb] at h
     cases h
    ·exact h
   by_cases hm : n1 > 300
   ·have hc1 : (k : Int) > 300 := by omega
    exact rel_many _ HR6.out hm (fun e => by have h := HJ.out; rw [e] at h; rw [← hb]; exact h.stays) (.inr (by rw [hll]; exact hc1))
   ·have hkk : k = n1.toNat := by omega
    subst hkk
    exact Rel.weak (RInv.all HR6.out hm (hb ▸ HJ.out)) (fun l1 h => by obtain ⟨x, _, h⟩ := h; exact h.elim)⟩
 subst hc; clear HC1 HC0
 clear HJ hkn hk1000 hll
 
 go_upto_region 19 with fail
 have HV := Aside0.mk (cVarAtS s aL1 bL1 hs haL1); have hr := rel_var s aL1 bL1; have hi := stV_in s haL1 bL1
 have HR10 := Aside0.mk hr; clear hr
 generalize stV s aL1 bL1 = r at HV HR10 hi
 obtain ⟨n2, a10, b10⟩ := r
 simp only at HV HR10 hi
 have hv10 := hi.1; have ha10 := hi.2; clear hi
 go_wp2_with fail
 refine (HV.out w0 _ _ gr M1z.out).mono ?_
 rintro e w10 ⟨rfl, h⟩
 have M7_2 : Aside0 (Mem w0 w10 (Hold.box gr #[.string s, .int .i64 (a10 : Int), .bool b10] 112 :: Hold.val (Kd.slice 76 kIns) lo1 hi1 l1 [.slice X1 l1.length Y1] :: Hold.val (Kd.slice 105 kCap) lo0 hi0 l0 [.slice X0 l0.length Y0] :: Hold.box g3 #[.int .i64 p, .int .i64 r, .slice X0 l0.length Y0, .slice X1 l1.length Y1, .slice none 0 0] 73 :: Hold.box g2 #[.int .i64 0, .int .i64 0, .slice none 0 0, .slice none 0 0, .slice none 0 0] 73 :: H)) := ⟨h⟩
 clear h HV M1z
 have HF2 := Aside0.mk (show (g3 + 1 ≤ w10.heap.size ∧ g2 + 1 ≤ w10.heap.size) ∧ hi1 ≤ w10.heap.size ∧ hi0 ≤ w10.heap.size from ⟨⟨(M7_2.out.fits _ (.tail _ (.tail _ (.tail _ (.head _))))).2, (M7_2.out.fits _ (.tail _ (.tail _ (.tail _ (.tail _ (.head _)))))).2⟩, (M7_2.out.fits _ (.tail _ (.head _))).2, (M7_2.out.fits _ (.tail _ (.tail _ (.head _)))).2⟩)
 have M8 : Aside0 (Mem w0 w10 (Hold.box gr #[.string s, .int .i64 (a10 : Int), .bool b10] 112 :: Hold.val (Kd.slice 107 kHandler) w10.heap.size w10.heap.size [] [.slice none 0 0] :: Hold.val (Kd.slice 76 kIns) lo1 hi1 l1 [.slice X1 l1.length Y1] :: Hold.val (Kd.slice 105 kCap) lo0 hi0 l0 [.slice X0 l0.length Y0] :: Hold.box g3 #[.int .i64 p, .int .i64 r, .slice X0 l0.length Y0, .slice X1 l1.length Y1, .slice none 0 0] 73 :: Hold.box g2 #[.int .i64 0, .int .i64 0, .slice none 0 0, .slice none 0 0, .slice none 0 0] 73 :: H)) := ⟨(M7_2.out.pushR (Below.refl _ _) (Kd.R_nil kHandler 107 _ w10.heap.size (fun _ => True))).swap2⟩
 obtain ⟨lo2, hlo⟩ : ∃ lo : Nat, lo = w10.heap.size := ⟨_, rfl⟩
 rw [← hlo] at M8 HF2
 clear hlo M7_2
 go_upto_region 21 with fail
 go_loopw [9] (fun v wx => ∃ (k aL2 hi2 : Nat) (bL2 : Bool) (l2 : List Handler) (X2 : Option Addr) (Y2 : Nat), v = .int .i64 k ∧ (k : Int) ≤ n2 ∧ k ≤ 1000 ∧ aL2 ≤ s.size ∧ lo2 ≤ hi2 ∧ Aside0 (RInv No (phand s) a10 b10 k l2 aL2 bL2) ∧ Aside0 (Mem w0 wx (Hold.box gr #[.string s, .int .i64 (aL2 : Int), .bool bL2] 112 :: Hold.val (Kd.slice 107 kHandler) lo2 hi2 l2 [.slice X2 l2.length Y2] :: Hold.val (Kd.slice 76 kIns) lo1 hi1 l1 [.slice X1 l1.length Y1] :: Hold.val (Kd.slice 105 kCap) lo0 hi0 l0 [.slice X0 l0.length Y0] :: Hold.box g3 #[.int .i64 p, .int .i64 r, .slice X0 l0.length Y0, .slice X1 l1.length Y1, .slice X2 l2.length Y2] 73 :: Hold.box g2 #[.int .i64 0, .int .i64 0, .slice none 0 0, .slice none 0 0, .slice none 0 0] 73 :: H))) (fun v _ => 1001 - (intOf v).toNat)
 case atStart => exact ⟨0, a10, lo2, b10, [], none, 0, rfl, by omega, by omega, ha10, Nat.le_refl _, ⟨RInv.start _ _ _ _⟩, M8⟩
 case round =>
 clear M8
 obtain ⟨k, aL2, hi2, bL2, l2, X2, Y2, rfl, hkn, hk1000, haL2, hhi2, HJ, M2z⟩ := hrel
 have hll := HJ.out.1
 go_upto_region 21 with fail
 go_cut [97] (fun u wx => ∃ (c : Bool) (W : World), u = .bool c ∧ Aside0 (c = true → ((k : Int) < n2 ∧ k < 1000 ∧ bL2 = false)) ∧ Aside0 (c = false → (bL2 = true ∨ (k : Int) = n2 ∨ k = 1000)) ∧ Aside0 (W = wx) ∧ Aside0 (Mem w0 W (Hold.box gr #[.string s, .int .i64 (aL2 : Int), .bool bL2] 112 :: Hold.val (Kd.slice 107 kHandler) lo2 hi2 l2 [.slice X2 l2.length Y2] :: Hold.val (Kd.slice 76 kIns) lo1 hi1 l1 [.slice X1 l1.length Y1] :: Hold.val (Kd.slice 105 kCap) lo0 hi0 l0 [.slice X0 l0.length Y0] :: Hold.box g3 #[.int .i64 p, .int .i64 r, .slice X0 l0.length Y0, .slice X1 l1.length Y1, .slice X2 l2.length Y2] 73 :: Hold.box g2 #[.int .i64 0, .int .i64 0, .slice none 0 0, .slice none 0 0, .slice none 0 0] 73 :: H)))
 case first =>
  have z0 := M2z.out.box (.head _)
  by_cases c1 : (k : Int) < n2
  ·by_cases c2 : (k : Int) < 1000
   ·cases bL2
    ·go_wp2_with fail
     go_meet
     exact ⟨true, wr, rfl, ⟨fun _ => ⟨c1, by omega, (by first | rfl | trivial)⟩⟩, ⟨fun h => (by cases h)⟩, ⟨rfl⟩, M2z⟩
    ·go_wp2_with fail
     go_meet
     exact ⟨false, wr, rfl, ⟨fun h => (by cases h)⟩, ⟨fun _ => .inl (by first | rfl | trivial)⟩, ⟨rfl⟩, M2z⟩
   ·go_wp2_with fail
    go_meet
    exact ⟨false, wr, rfl, ⟨fun h => (by cases h)⟩, ⟨fun _ => .inr (.inr (by omega))⟩, ⟨rfl⟩, M2z⟩
  ·go_wp2_with fail
   go_meet
   exact ⟨false, wr, rfl, ⟨fun h => (by cases h)⟩, ⟨fun _ => .inr (.inl (by omega))⟩, ⟨rfl⟩, M2z⟩
 case rest =>
 clear M2z
 obtain ⟨c, Wc, rfl, HC1, HC0, HW, M2z⟩ := hcut
 have hw9 := HW.out; subst hw9; clear HW
 rcases Bool.eq_false_or_eq_true c with hc | hc
 ·obtain ⟨hkn2, hk2, hbj⟩ := HC1.out hc
  subst hc
  clear HC1 HC0
  go_upto_region 23 with fail
  obtain ⟨ge, hge⟩ : ∃ ge, ge = Wc.heap.size := ⟨_, rfl⟩
  have ME0 : Aside0 (Mem w0 (Wc.alloc (.cells #[.int .i64 0, .int .i64 0, .int .i64 0] 107)) (Hold.box gr #[.string s, .int .i64 (aL2 : Int), .bool bL2] 112 :: Hold.box ge #[.int .i64 0, .int .i64 0, .int .i64 0] 107 :: Hold.val (Kd.slice 107 kHandler) lo2 hi2 l2 [.slice X2 l2.length Y2] :: Hold.val (Kd.slice 76 kIns) lo1 hi1 l1 [.slice X1 l1.length Y1] :: Hold.val (Kd.slice 105 kCap) lo0 hi0 l0 [.slice X0 l0.length Y0] :: Hold.box g3 #[.int .i64 p, .int .i64 r, .slice X0 l0.length Y0, .slice X1 l1.length Y1, .slice X2 l2.length Y2] 73 :: Hold.box g2 #[.int .i64 0, .int .i64 0, .slice none 0 0, .slice none 0 0, .slice none 0 0] 73 :: H)) := ⟨(M2z.out.allocAt hge _ _).swap2⟩
  go_upto_region 24 with fail
  rw [← hge]
  generalize hWe : Wc.alloc (.cells #[.int .i64 0, .int .i64 0, .int .i64 0] 107) = We at ME0 ⊢
  clear hWe hge M2z
  have HV := Aside0.mk (cVarAtS s aL2 bL2 hs haL2); have hr := rel_var s aL2 bL2; have hi2 := stV_in s haL2 bL2
  have HR11 := Aside0.mk hr; clear hr
  generalize stV s aL2 bL2 = r at HV HR11 hi2
  obtain ⟨v0, a11, b11⟩ := r
  simp only at HV HR11 hi2
  have hv11 := hi2.1; have ha11 := hi2.2; clear hi2
  go_wp2_with fail
  refine (HV.out w0 _ _ gr ME0.out).mono ?_
  rintro e w11 ⟨rfl, h⟩
  have MR0 : Aside0 (Mem w0 w11 (Hold.box gr #[.string s, .int .i64 (a11 : Int), .bool b11] 112 :: Hold.box ge #[.int .i64 0, .int .i64 0, .int .i64 0] 107 :: Hold.val (Kd.slice 107 kHandler) lo2 hi2 l2 [.slice X2 l2.length Y2] :: Hold.val (Kd.slice 76 kIns) lo1 hi1 l1 [.slice X1 l1.length Y1] :: Hold.val (Kd.slice 105 kCap) lo0 hi0 l0 [.slice X0 l0.length Y0] :: Hold.box g3 #[.int .i64 p, .int .i64 r, .slice X0 l0.length Y0, .slice X1 l1.length Y1, .slice X2 l2.length Y2] 73 :: Hold.box g2 #[.int .i64 0, .int .i64 0, .slice none 0 0, .slice none 0 0, .slice none 0 0] 73 :: H)) := ⟨h⟩
  clear h HV ME0
  have ze := MR0.out.box (.tail _ (.head _)); have fe := MR0.out.free (.tail _ (.head _))
  have MS0 : Aside0 (Mem w0 (w11.setCell ⟨ge, 0, none⟩ (.int .i64 v0)) (Hold.box gr #[.string s, .int .i64 (a11 : Int), .bool b11] 112 :: Hold.box ge #[.int .i64 v0, .int .i64 0, .int .i64 0] 107 :: Hold.val (Kd.slice 107 kHandler) lo2 hi2 l2 [.slice X2 l2.length Y2] :: Hold.val (Kd.slice 76 kIns) lo1 hi1 l1 [.slice X1 l1.length Y1] :: Hold.val (Kd.slice 105 kCap) lo0 hi0 l0 [.slice X0 l0.length Y0] :: Hold.box g3 #[.int .i64 p, .int .i64 r, .slice X0 l0.length Y0, .slice X1 l1.length Y1, .slice X2 l2.length Y2] 73 :: Hold.box g2 #[.int .i64 0, .int .i64 0, .slice none 0 0, .slice none 0 0, .slice none 0 0] 73 :: H)) := ⟨Mem.set (A := [_]) MR0.out 0 (.int .i64 v0) rfl⟩
  clear MR0
  go_upto_region 25 with fail
  clear ze fe
  generalize hWs : w11.setCell ⟨ge, 0, none⟩ (.int .i64 v0) = Ws0 at MS0 ⊢
  clear hWs
  have HV := Aside0.mk (cVarAtS s a11 b11 hs ha11); have hr := rel_var s a11 b11; have hi2 := stV_in s ha11 b11
  have HR12 := Aside0.mk hr; clear hr
  generalize stV s a11 b11 = r at HV HR12 hi2
  obtain ⟨v1, a12, b12⟩ := r
  simp only at HV HR12 hi2
  have hv12 := hi2.1; have ha12 := hi2.2; clear hi2
  go_wp2_with fail
  refine (HV.out w0 _ _ gr MS0.out).mono ?_
  rintro e w12 ⟨rfl, h⟩
  have MR1 : Aside0 (Mem w0 w12 (Hold.box gr #[.string s, .int .i64 (a12 : Int), .bool b12] 112 :: Hold.box ge #[.int .i64 v0, .int .i64 0, .int .i64 0] 107 :: Hold.val (Kd.slice 107 kHandler) lo2 hi2 l2 [.slice X2 l2.length Y2] :: Hold.val (Kd.slice 76 kIns) lo1 hi1 l1 [.slice X1 l1.length Y1] :: Hold.val (Kd.slice 105 kCap) lo0 hi0 l0 [.slice X0 l0.length Y0] :: Hold.box g3 #[.int .i64 p, .int .i64 r, .slice X0 l0.length Y0, .slice X1 l1.length Y1, .slice X2 l2.length Y2] 73 :: Hold.box g2 #[.int .i64 0, .int .i64 0, .slice none 0 0, .slice none 0 0, .slice none 0 0] 73 :: H)) := ⟨h⟩
  clear h HV MS0
  have ze := MR1.out.box (.tail _ (.head _)); have fe := MR1.out.free (.tail _ (.head _))
  have MS1 : Aside0 (Mem w0 (w12.setCell ⟨ge, 1, none⟩ (.int .i64 v1)) (Hold.box gr #[.string s, .int .i64 (a12 : Int), .bool b12] 112 :: Hold.box ge #[.int .i64 v0, .int .i64 v1, .int .i64 0] 107 :: Hold.val (Kd.slice 107 kHandler) lo2 hi2 l2 [.slice X2 l2.length Y2] :: Hold.val (Kd.slice 76 kIns) lo1 hi1 l1 [.slice X1 l1.length Y1] :: Hold.val (Kd.slice 105 kCap) lo0 hi0 l0 [.slice X0 l0.length Y0] :: Hold.box g3 #[.int .i64 p, .int .i64 r, .slice X0 l0.length Y0, .slice X1 l1.length Y1, .slice X2 l2.length Y2] 73 :: Hold.box g2 #[.int .i64 0, .int .i64 0, .slice none 0 0, .slice none 0 0, .slice none 0 0] 73 :: H)) := ⟨Mem.set (A := [_]) MR1.out 1 (.int .i64 v1) rfl⟩
  clear MR1
  go_upto_region 26 with fail
  clear ze fe
  generalize hWs : w12.setCell ⟨ge, 1, none⟩ (.int .i64 v1) = Ws1 at MS1 ⊢
  clear hWs
  have HV := Aside0.mk (cVarAtS s a12 b12 hs ha12); have hr := rel_var s a12 b12; have hi2 := stV_in s ha12 b12
  have HR13 := Aside0.mk hr; clear hr
  generalize stV s a12 b12 = r at HV HR13 hi2
  obtain ⟨v2, a13, b13⟩ := r
  simp only at HV HR13 hi2
  have hv13 := hi2.1; have ha13 := hi2.2; clear hi2
  go_wp2_with fail
  refine (HV.out w0 _ _ gr MS1.out).mono ?_
  rintro e w13 ⟨rfl, h⟩
  have MR2 : Aside0 (Mem w0 w13 (Hold.box gr #[.string s, .int .i64 (a13 : Int), .bool b13] 112 :: Hold.box ge #[.int .i64 v0, .int .i64 v1, .int .i64 0] 107 :: Hold.val (Kd.slice 107 kHandler) lo2 hi2 l2 [.slice X2 l2.length Y2] :: Hold.val (Kd.slice 76 kIns) lo1 hi1 l1 [.slice X1 l1.length Y1] :: Hold.val (Kd.slice 105 kCap) lo0 hi0 l0 [.slice X0 l0.length Y0] :: Hold.box g3 #[.int .i64 p, .int .i64 r, .slice X0 l0.length Y0, .slice X1 l1.length Y1, .slice X2 l2.length Y2] 73 :: Hold.box g2 #[.int .i64 0, .int .i64 0, .slice none 0 0, .slice none 0 0, .slice none 0 0] 73 :: H)) := ⟨h⟩
  clear h HV MS1
  have ze := MR2.out.box (.tail _ (.head _)); have fe := MR2.out.free (.tail _ (.head _))
  have MS2 : Aside0 (Mem w0 (w13.setCell ⟨ge, 2, none⟩ (.int .i64 v2)) (Hold.box gr #[.string s, .int .i64 (a13 : Int), .bool b13] 112 :: Hold.box ge #[.int .i64 v0, .int .i64 v1, .int .i64 v2] 107 :: Hold.val (Kd.slice 107 kHandler) lo2 hi2 l2 [.slice X2 l2.length Y2] :: Hold.val (Kd.slice 76 kIns) lo1 hi1 l1 [.slice X1 l1.length Y1] :: Hold.val (Kd.slice 105 kCap) lo0 hi0 l0 [.slice X0 l0.length Y0] :: Hold.box g3 #[.int .i64 p, .int .i64 r, .slice X0 l0.length Y0, .slice X1 l1.length Y1, .slice X2 l2.length Y2] 73 :: Hold.box g2 #[.int .i64 0, .int .i64 0, .slice none 0 0, .slice none 0 0, .slice none 0 0] 73 :: H)) := ⟨Mem.set (A := [_]) MR2.out 2 (.int .i64 v2) rfl⟩
  clear MR2
  go_upto_region 27 with fail
  clear ze fe
  generalize hWs : w13.setCell ⟨ge, 2, none⟩ (.int .i64 v2) = Ws2 at MS2 ⊢
  clear hWs
  have HX := Aside0.mk (show Rel No (phand s) aL2 bL2 (⟨v0, v1, v2⟩ : Handler) a13 b13 from Rel.seq HR11.out (Rel.seq HR12.out (Rel.seq HR13.out (rel_ret _ _ _ _) (fun h => h.elim)) (fun h => h.elim)) (fun h => h.elim))
  have ze := MS2.out.box (.tail _ (.head _)); have zg := MS2.out.box (.tail _ (.tail _ (.tail _ (.tail _ (.tail _ (.head _)))))); have fg := MS2.out.free (.tail _ (.tail _ (.tail _ (.tail _ (.tail _ (.head _))))))
  have MN : Aside0 (Mem w0 Ws2 (Hold.box gr #[.string s, .int .i64 (a13 : Int), .bool b13] 112 :: Hold.val (Kd.slice 107 kHandler) lo2 hi2 l2 [.slice X2 l2.length Y2] :: Hold.val (Kd.slice 76 kIns) lo1 hi1 l1 [.slice X1 l1.length Y1] :: Hold.val (Kd.slice 105 kCap) lo0 hi0 l0 [.slice X0 l0.length Y0] :: Hold.box g3 #[.int .i64 p, .int .i64 r, .slice X0 l0.length Y0, .slice X1 l1.length Y1, .slice X2 l2.length Y2] 73 :: Hold.box g2 #[.int .i64 0, .int .i64 0, .slice none 0 0, .slice none 0 0, .slice none 0 0] 73 :: H)) := ⟨MS2.out.mid (A := [_])⟩
  clear MS2
  have hlw : lo2 ≤ Ws2.heap.size := Nat.le_trans hhi2 (MN.out.fits _ (.tail _ (.head _))).2
  go_wp2_with (((with_reducible refine gate_builtin (b := .append) (xs := #[.tmp 111, .tmp 113]) rfl ?_); at_builtin; refine Aside0.out ?_))
  refine ⟨?_⟩
  refine Kd.R_append kHandler (w0 := Ws2) lo2 rfl (.tmp 111) (.tmp 113) 71 107 (.agg #[.int .i64 0, .int .i64 0, .int .i64 0]) 24 rfl Try.underlying71 (by kernel_rfl) rfl (by decide) (by decide) (.slice X2 l2.length Y2) l2 (⟨v0, v1, v2⟩ : Handler) [.int .i64 v0, .int .i64 v1, .int .i64 v2] (fun k => lo2 ≤ k) (fun _ => False) ?aV ?aX (kHandler_mkM _ _ _ _) (fun _ h => h.elim) (fun k hk => Nat.le_trans hlw hk) (Kd.R_mono (MN.out.row (.tail _ (.head _))) (fun k hk => hk.1)) (Below.refl _ _) hlw (by omega) ?_
  (case aV => first | rfl | (go_simp; done) | (go_simp; rfl))
  (case aX => first | rfl | (go_simp; done) | (go_simp; rfl))
  intro v9 w9 ho hb9 hg9 hat9; clear hg9 hat9
  obtain ⟨A9, y9, hv9⟩ := Kd.R_slice ho; subst hv9
  obtain ⟨ln, hln⟩ : ∃ ln, ln = l2 ++ [(⟨v0, v1, v2⟩ : Handler)] := ⟨_, rfl⟩
  have HLN := Aside0.mk hln
  rw [← hln] at ho ⊢
  clear hln
  have MG : Aside0 (Mem w0 w9 (Hold.box gr #[.string s, .int .i64 (a13 : Int), .bool b13] 112 :: Hold.val (Kd.slice 107 kHandler) lo2 w9.heap.size ln [.slice A9 ln.length y9] :: Hold.val (Kd.slice 76 kIns) lo1 hi1 l1 [.slice X1 l1.length Y1] :: Hold.val (Kd.slice 105 kCap) lo0 hi0 l0 [.slice X0 l0.length Y0] :: Hold.box g3 #[.int .i64 p, .int .i64 r, .slice X0 l0.length Y0, .slice X1 l1.length Y1, .slice X2 l2.length Y2] 73 :: Hold.box g2 #[.int .i64 0, .int .i64 0, .slice none 0 0, .slice none 0 0, .slice none 0 0] 73 :: H)) := ⟨Mem.growAt (A := [_]) MN.out (fun x hx => ?mgo) hb9 ho⟩
  (case mgo =>
   have h1 := HH.out; have h2 := HF2.out
   simp only [List.mem_append, List.mem_cons, List.not_mem_nil, or_false] at hx
   rcases hx with rfl | rfl | rfl | rfl | rfl | hx
   ·simp only [Hold.box]; omega
   ·simp only [Hold.val]; omega
   ·simp only [Hold.val]; omega
   ·simp only [Hold.box]; omega
   ·simp only [Hold.box]; omega
   ·have := h1.2 x hx; omega)
  have hh9 : lo2 ≤ w9.heap.size := Nat.le_trans hlw hb9.size
  clear ho hb9 MN ze zg fg
  have zg := MG.out.box (.tail _ (.tail _ (.tail _ (.tail _ (.head _))))); have fg := MG.out.free (.tail _ (.tail _ (.tail _ (.tail _ (.head _)))))
  have MZ : Aside0 (Mem w0 (w9.setCell ⟨g3, 4, none⟩ (.slice A9 ln.length y9)) (Hold.box gr #[.string s, .int .i64 (a13 : Int), .bool b13] 112 :: Hold.val (Kd.slice 107 kHandler) lo2 w9.heap.size ln [.slice A9 ln.length y9] :: Hold.val (Kd.slice 76 kIns) lo1 hi1 l1 [.slice X1 l1.length Y1] :: Hold.val (Kd.slice 105 kCap) lo0 hi0 l0 [.slice X0 l0.length Y0] :: Hold.box g3 #[.int .i64 p, .int .i64 r, .slice X0 l0.length Y0, .slice X1 l1.length Y1, .slice A9 ln.length y9] 73 :: Hold.box g2 #[.int .i64 0, .int .i64 0, .slice none 0 0, .slice none 0 0, .slice none 0 0] 73 :: H)) := ⟨Mem.set (A := [_, _, _, _]) MG.out 4 (.slice A9 ln.length y9) rfl⟩
  clear MG
  have HJ2 := Aside0.mk (show RInv No (phand s) a10 b10 (k + 1) ln a13 b13 from by rw [HLN.out]; exact HJ.out.step HX.out)
  have hszz : (w9.setCell ⟨g3, 4, none⟩ (.slice A9 ln.length y9)).heap.size = w9.heap.size := by simp
  go_wp2
  go_roundw
  (case measure => simp [intOf]; omega)
  (case rel => first | exact ⟨k + 1, a13, w9.heap.size, b13, ln, A9, y9, by go_num, by omega, by omega, ha13, hh9, HJ2, MZ⟩ | ((repeat apply Exists.intro); exact ⟨⟨k + 1, a13, w9.heap.size, b13, ln, A9, y9, by go_num, by omega, by omega, ha13, hh9, HJ2, MZ⟩, rfl⟩))
 have HL2 : Aside0 (Rel (fun l2 => (l2.length : Int) > 40) (plist (phand s) 40 s) aL1 bL1 l2 aL2 bL2) := ⟨by
  have hc0 := HC0.out hc
  cases hb : bL2 with
  | true => exact RInv.bads (E := No) _ HR10.out hkn (hb ▸ HJ.out)
  | false =>
   have hc2 : (k : Int) = n2 ∨ k = 1000 := by
    rcases hc0 with h | h
    ·rw [hb] at h
     cases h
    ·exact h
   by_cases hm : n2 > 40
   ·have hc1 : (k : Int) > 40 := by omega
    exact rel_many _ HR10.out hm (fun e => by have h := HJ.out; rw [e] at h; rw [← hb]; exact h.stays) (.inr (by rw [hll]; exact hc1))
   ·have hkk : k = n2.toNat := by omega
    subst hkk
    exact Rel.weak (RInv.all HR10.out hm (hb ▸ HJ.out)) (fun l2 h => by obtain ⟨x, _, h⟩ := h; exact h.elim)⟩
 subst hc; clear HC1 HC0
 clear HJ hkn hk1000 hll
 
 have z3 := M2z.out.box (.tail _ (.tail _ (.tail _ (.tail _ (.head _))))); have z2 := M2z.out.box (.tail _ (.tail _ (.tail _ (.tail _ (.tail _ (.head _)))))); have f2 := M2z.out.free (.tail _ (.tail _ (.tail _ (.tail _ (.tail _ (.head _))))))
 have ME : Aside0 (Mem w0 (((((Wc.setCell ⟨g2, 0, none⟩ (.int .i64 p)).setCell ⟨g2, 1, none⟩ (.int .i64 r)).setCell ⟨g2, 2, none⟩ (.slice X0 l0.length Y0)).setCell ⟨g2, 3, none⟩ (.slice X1 l1.length Y1)).setCell ⟨g2, 4, none⟩ (.slice X2 l2.length Y2)) (Hold.box gr #[.string s, .int .i64 (aL2 : Int), .bool bL2] 112 :: Hold.val (Kd.slice 107 kHandler) lo2 hi2 l2 [.slice X2 l2.length Y2] :: Hold.val (Kd.slice 76 kIns) lo1 hi1 l1 [.slice X1 l1.length Y1] :: Hold.val (Kd.slice 105 kCap) lo0 hi0 l0 [.slice X0 l0.length Y0] :: Hold.box g3 #[.int .i64 p, .int .i64 r, .slice X0 l0.length Y0, .slice X1 l1.length Y1, .slice X2 l2.length Y2] 73 :: Hold.box g2 #[.int .i64 p, .int .i64 r, .slice X0 l0.length Y0, .slice X1 l1.length Y1, .slice X2 l2.length Y2] 73 :: H)) := ⟨(Mem.set (A := [_, _, _, _, _]) (Mem.set (A := [_, _, _, _, _]) (Mem.set (A := [_, _, _, _, _]) (Mem.set (A := [_, _, _, _, _]) (Mem.set (A := [_, _, _, _, _]) M2z.out 0 (.int .i64 p) rfl) 1 (.int .i64 r) rfl) 2 (.slice X0 l0.length Y0) rfl) 3 (.slice X1 l1.length Y1) rfl) 4 (.slice X2 l2.length Y2) rfl)⟩
 have HREL := Aside0.mk (show Rel fdoom (pfunc s) a bad (⟨p, r, l0, l1, l2⟩ : Func) aL2 bL2 from Rel.seq HR1.out (Rel.seq HR2.out (Rel.seq HL0.out (Rel.seq HL1.out (Rel.seq HL2.out (rel_ret _ _ _ _) (fun h => .inr (.inr h))) (fun h => .inr (.inl h))) (fun h => .inl h)) (fun h => h.elim)) (fun h => h.elim))
 clear M2z
 go_wp2
 refine bodyPost_ret (results_cell_row rfl _ _ g2 73 #[.int .i64 p, .int .i64 r, .slice X0 l0.length Y0, .slice X1 l1.length Y1, .slice X2 l2.length Y2] (0, 0) _ rfl (ME.out.blk (.tail _ (.tail _ (.tail _ (.tail _ (.tail _ (.head _))))))) hu1 rfl (by kernel_rfl)) rfl ?_
 have h0 := HF0.out; have h1 := HF1.out; have h2 := HF2.out; have hg := HG2.out
 refine ⟨⟨p, r, l0, l1, l2⟩, aL2, bL2, _, [.int .i64 p, .int .i64 r, .slice X0 l0.length Y0, .slice X1 l1.length Y1, .slice X2 l2.length Y2], rfl, Mem.top ((((((ME.out.mid (A := [_])).mid (A := [_])).mid (A := [_])).mid (A := [_])).mid (A := [_]))) ?_ ?_ ?_ (kFuncI_mkM _ _ _ (⟨p, r, l0, l1, l2⟩ : Func) (Kd.R_mono (Kd.R_lower (ME.out.row (.tail _ (.tail _ (.tail _ (.head _))))) (by omega)) (fun _ _ => trivial)) (Kd.R_mono (Kd.R_lower (ME.out.row (.tail _ (.tail _ (.head _)))) (by omega)) (fun _ _ => trivial)) (Kd.R_mono (Kd.R_lower (ME.out.row (.tail _ (.head _))) (by omega)) (fun _ _ => trivial))), haL2, HREL.out⟩
 ·intro x hx
  rcases List.mem_cons.1 hx with rfl | hx
  ·exact Nat.le_trans HH.out.1 (Nat.le_of_eq HG2.out)
  ·exact Nat.le_trans (HH.out.2 x hx) (Nat.le_of_eq HG2.out)
 ·rw [← HG2.out]; exact (ME.out.fits _ (.tail _ (.tail _ (.tail _ (.tail _ (.tail _ (.head _))))))).1
 ·have := (ME.out.fits _ (.tail _ (.tail _ (.tail _ (.tail _ (.tail _ (.head _))))))).2
  simp only [Hold.box] at this
  rw [← HG2.out]
  omega
end Go.Proofs.Ytcbaokflimdjnaa.Law
end
